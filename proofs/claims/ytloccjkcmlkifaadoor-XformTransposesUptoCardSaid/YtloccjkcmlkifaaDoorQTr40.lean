/- XformTransposes_card, part 40. -/
import Derived.Test.YtloccjkcmlkifaaDoorQTr39
import Derived.Test.YtloccjkcmlkifaaDoorQTr27
import Derived.Test.YtloccjkcmlkifaaDoorQTr25
import Derived.Test.YtloccjkcmlkifaaDoorQTr30

section
/- The document's include, told of whole operations: it answers as the program's. -/
namespace Go.Proofs.YtloccjkcmlkifaaDoor
open Go.RowKit Go.Proofs.YtloccjkcmlkifaaDoor.PAll Go.Proofs.YtloccjkcmlkifaaDoorW.PrintWords Go.Proofs.YtloccjkcmlkifaaDoorW.PrintLast

theorem context_any (w : World) : Calls Tryd.prog 104 #[] w fun e w' => ∃ v, e = .returned v ∧ (∃ A c, v = .slice A 1 c ∧ 1 ≤ c) ∧ Kd.R k154 154 w' w.heap.size (fun _ => True) v [(⟨0, 0, 2097152⟩ : S154)] ∧ Below w.heap.size w w' :=
 (redraftref05_context.calls [(⟨0, 0, 2097152⟩ : S154)] w rfl).mono fun e w' ⟨v, he, hr, hb⟩ => by
  obtain ⟨A, c, e1, h1, _⟩ := Kd.R_reads hr
  exact ⟨v, he, ⟨A, c, e1, h1⟩, hr, hb⟩
def RowC (w : World) (v : Value) (l : List S154) : Prop := ∃ A c, v = .slice A l.length c ∧ l.length ≤ c ∧ k154.C w A l.length l
theorem rowC_of {w : World} {base : Nat} {v : Value} {l : List S154} (h : Kd.R k154 154 w base (fun _ => True) v l) : RowC w v l := Kd.R_reads h
theorem with_any (row l : List S154) (k : Nat) (vr : Value) (who p n : Int) (w : World) (hr : RowC w vr row) (h : redraftref05_with.f k row who p n = some l) :
 Calls Tryd.prog 103 #[vr, .int .i64 who, .int .i64 p, .int .i64 n] w fun e w' => ∃ v, e = .returned v ∧ Kd.R k154 154 w' w.heap.size (fun _ => True) v l ∧ Below w.heap.size w w' := by
 obtain ⟨A, c, rfl, h1, h2⟩ := hr
 exact redraftref05_with.calls k A c row who p n l w h2 h1 h
theorem place_any (row : List S154) (k : Nat) (vr : Value) (who x r : Int) (w : World) (hr : RowC w vr row) (h : redraftref05_place.f k row who x = some r) :
 Calls Tryd.prog 106 #[vr, .int .i64 who, .int .i64 x] w fun e w' => e = .returned (.int .i64 r) ∧ Below w.heap.size w w' := by
 obtain ⟨A, c, rfl, h1, h2⟩ := hr
 exact redraftref05_place.calls k A c row who x r w h2 h1 h
theorem found_any (row row2 : List S154) (l r : List S94) (q : Int) (k : Nat) (vr vr2 : Value) (A : Option Addr) (c : Nat) (w : World) (hr : RowC w vr row) (hr2 : RowC w vr2 row2) (h1 : l.length ≤ c) (h2 : k94.C w A l.length l) (h : redraftref05_found.f k row row2 l = some (r, q)) :
 Calls Tryd.prog 110 #[vr, vr2, .slice A l.length c] w fun e w' => ∃ v, e = .returned (.tuple #[v, .int .i64 q]) ∧ Kd.R k94 94 w' w.heap.size (fun _ => True) v r ∧ Below w.heap.size w w' := by
 obtain ⟨A1, c1, rfl, g1, g2⟩ := hr
 obtain ⟨A2, c2, rfl, g3, g4⟩ := hr2
 exact redraftref05_found.calls k A1 c1 row A2 c2 row2 A c l r q w g2 g1 g4 g3 h2 h1 h
abbrev ctx0 : List S154 := [(⟨0, 0, 2097152⟩ : S154)]

theorem place_in (k : Nat) (who p n : Int) (hw : who ≠ 0) (h0 : 0 ≤ p) (h1 : p ≤ 1048576) (hn : 1 ≤ n ∧ n ≤ 1048576) : redraftref05_place.f (k + 4) (ctxWith who p n) who 0 = some p := by
 unfold redraftref05_place.f
 rw [show (0 : Int) = ((0 : Nat) : Int) from rfl]
 by_cases h : p > 0
 · have hc : ctxWith who p n = [⟨0, 0, p⟩, ⟨who, 0, n⟩, ⟨0, p, 2097152⟩] := by unfold ctxWith; rw [if_pos h]; rfl
   rw [hc, show k + 4 = (k + 3) + 1 from rfl, place_step (k + 3) _ _ _ _ 0 (by simp) (by simp) ⟨0, 0, p⟩ rfl (by simp; omega), if_neg (fun h => hw h.1.symm)]
   simp only
   rw [show k + 3 = (k + 2) + 1 from rfl, place_step (k + 2) _ _ _ _ 1 (by simp) (by simp) ⟨who, 0, n⟩ rfl (by simp; omega), if_pos ⟨rfl, by simp, by show ((0 : Nat) : Int) < n; omega⟩]
   congr 1
   show ((0 : Nat) : Int) + p - 0 + ((0 : Nat) : Int) - 0 = p
   omega
 · obtain rfl : p = 0 := by omega
   have hc : ctxWith who 0 n = [⟨who, 0, n⟩, ⟨0, 0, 2097152⟩] := rfl
   rw [hc, show k + 4 = (k + 3) + 1 from rfl, place_step (k + 3) _ _ _ _ 0 (by simp) (by simp) ⟨who, 0, n⟩ rfl (by simp; omega), if_pos ⟨rfl, by simp, by show ((0 : Nat) : Int) < n; omega⟩]
   rfl
attribute [local go_sem high] eqA35 idx35_0 idx35_1
set_option maxRecDepth 100000 in
set_option maxHeartbeats 8000000 in
theorem rinclude_any (a b : S41) (e : Bool) (va vb : Value) (r : List S94 × Int) (w : World) (ha : OpC w va a) (hb : OpC w vb b) (fa : Fit a) (fb : Fit b) (na : fineOp a) (nb : fineOp b) (oa : ownE a = 0) (ob : ownE b = 0)
 (e3 : a.f0.f1 = 1 → a.f3 = []) (em : a.f0.f1 = 1 → moveE a a.f1 = (a, 0))
 (hr : a.f0.f1 = 2 ∨ a.f0.f1 = 3 → b.f0.f1 = 1 → ∃ k l q, redraftref05_found.f k ctx0 (ctxWith 2 b.f1 (wid b)) a.f3 = some (l, q) ∧ l.length ≤ 4611686018427387904 ∧ covE a l = rangedE a r) :
 Calls Tryd.prog 96 #[.agg (opA a va), .agg (opA b vb), .bool e] w (RetOp w (incP a b e r)) := by
 obtain ⟨A, c, rfl, h1, h2⟩ := ha
 obtain ⟨B, d, rfl, h3, h4⟩ := hb
 have S := Aside0.mk (St.init w (F := fun _ => True) (fun _ _ => trivial))
 have H1 := Aside0.mk h1; have H2 := Aside0.mk h2
 have HA := Aside0.mk (opC_mk h1 h2); have HB := Aside0.mk (opC_mk h3 h4)
 have HF := Aside0.mk (show fineOp a ∧ fineOp b ∧ ownE b = 0 from ⟨na, nb, ob⟩)
 have ka := own_ok oa
 clear h1 h2 h3 h4
 unfold incP
 by_cases hcl : clashB a b = true
 · rw [if_pos hcl]
   have HC := Aside0.mk hcl
   clear hcl hr e3 em ka
   go_enter Tryd.func96, Tryd.ntmps96
   go_wp2_with (first | ((with_reducible refine gate_box rfl ?_); refine ev_box S ?_; clear S; intro _ _ S) | ((with_reducible refine gate_new rfl ?_); refine ev_new S 41 zA ?_; clear S; intro _ _ S) | ((with_reducible refine gate_load rfl ?_); first | refine ev_load S ?_ | refine ev_fld S ?_) | ((with_reducible refine gate_st rfl ?_); refine ev_store S ?_; clear S; intro _ S) | (go_at_call 108; (with_reducible refine (isC_any a b _ _ HC.out).mono ?_); rintro e w7 ⟨rfl, hb⟩; replace S := Aside0.mk (S.out.step hb); clear hb))
   exact bodyPost_ret (results_ct rfl _ _ _ 41 zA (0, 0) _ rfl (S.out.at_ 0 rfl) Tryd.underlying41 rfl (by kernel_rfl)) rfl ⟨.slice none 0 0, rfl, opR_nil _ _, S.out.below⟩
 rw [if_neg hcl]
 have HC : Aside0 (clashB a b = false) := ⟨by simpa using hcl⟩
 clear hcl
 by_cases hk : b.f0.f1 = 1
 case neg =>
  rw [if_pos hk]
  have hk' : (b.f0.f1 != 1) = true := bne_iff_ne.mpr hk
  clear hk hr e3 em ka
  go_enter Tryd.func96, Tryd.ntmps96
  go_wp2_with (first | ((with_reducible refine gate_box rfl ?_); refine ev_box S ?_; clear S; intro _ _ S) | ((with_reducible refine gate_new rfl ?_); refine ev_new S 41 zA ?_; clear S; intro _ _ S) | ((with_reducible refine gate_load rfl ?_); first | refine ev_load S ?_ | refine ev_fld S ?_) | ((with_reducible refine gate_st rfl ?_); refine ev_store S ?_; clear S; intro _ S) | (go_at_call 108; (with_reducible refine (isC_any a b _ _ HC.out).mono ?_); rintro e w7 ⟨rfl, hb⟩; replace S := Aside0.mk (S.out.step hb); clear hb) | (go_at_call 22; (with_reducible refine (rcopy_any a _ _ (HA.out.below S.out.below) HF.out.1).mono ?_); rintro e w7 ⟨v, rfl, hR, hb⟩; obtain ⟨Ao, co, rfl⟩ := hR.slice; replace S := Aside0.mk (S.out.addOp hb hR); clear hb hR))
  exact bodyPost_ret (results_ct rfl _ _ _ 41 _ (0, 0) _ rfl (S.out.at_ 0 rfl) Tryd.underlying41 rfl (by kernel_rfl)) rfl ⟨_, rfl, S.out.now.2, S.out.below⟩
 rw [if_neg (show ¬ b.f0.f1 ≠ 1 from fun h => h hk)]
 have hk' : (b.f0.f1 != 1) = false := bne_eq_false_iff_eq.mpr hk
 have hbi := own_ins ob nb.1 hk
 have hwb : wid b = (chk b.f2).1 := if_pos hk
 have HW := Aside0.mk (with_ctx 0 2 b.f1 (wid b) hbi.1 hbi.2.1)
 by_cases k1 : a.f0.f1 = 1
 · rw [if_pos k1]
   have k4' : (a.f0.f1 == 4) = false := by simp [k1]
   have k1' : (a.f0.f1 == 1) = true := by simp [k1]
   have hpl := place_ctx 0 2 b.f1 (wid b) a.f1 (by omega) hbi.1 hbi.2.1 ⟨by have := fb.wid; omega, fb.wid.2⟩ fa.at_.1 fa.at_.2
   have hpi := place_in 0 2 b.f1 (wid b) (by omega) hbi.1 hbi.2.1 ⟨by omega, fb.wid.2⟩
   have HM0 : ∀ p : Int, 0 ≤ p → p ≤ 4194304 → Aside0 (ownE a = 0 ∧ a.f3 = [] ∧ (0 ≤ p ∧ p ≤ 4194304) ∧ (0 ≤ wid a ∧ wid a ≤ 1048576)) := fun p h1 h2 => ⟨oa, e3 k1, ⟨h1, h2⟩, fa.wid⟩
   have hem := em k1
   have fat := fa.at_
   have fbw := fb.wid
   clear hr e3 em ka hk k1
   by_cases hlt : b.f1 < a.f1
   · rw [if_pos (.inl hlt)]
     rw [if_neg (show ¬ a.f1 < b.f1 by omega)] at hpl
     have HP := Aside0.mk hpl
     have HM := HM0 (a.f1 + wid b) (by omega) (by omega)
     have q1 : (a.f1 == b.f1) = false := beq_eq_false_iff_ne.mpr (by omega)
     clear hpl hpi HM0 hem fat fbw hlt hbi hwb
     go_enter Tryd.func96, Tryd.ntmps96
     go_wp2_with (first | ((with_reducible refine gate_box rfl ?_); refine ev_box S ?_; clear S; intro _ _ S) | ((with_reducible refine gate_new rfl ?_); refine ev_new S 41 zA ?_; clear S; intro _ _ S) | ((with_reducible refine gate_load rfl ?_); first | refine ev_load S ?_ | refine ev_fld S ?_) | (go_at_call 108; (with_reducible refine (isC_any a b _ _ HC.out).mono ?_); rintro e w7 ⟨rfl, hb⟩; replace S := Aside0.mk (S.out.step hb); clear hb) | (go_at_call 105; (with_reducible refine (rwidth_any b _ _ (HB.out.below S.out.below) HF.out.2.1 HF.out.2.2).mono ?_); rintro e w7 ⟨rfl, hb⟩; replace S := Aside0.mk (S.out.step hb); clear hb))
     (refine rg_start (n := 6) (fun W => St w W _ _) [] S.out (fun _ h => h.drew) ?_; clear S; intro _ S; refine pu_ 1 ?_; refine fl_ 2 1 S ?_; refine pu_ 3 ?_; refine cl_ 0 #[] ?_ Tryd.func104; refine (context_any _).mono ?_; rintro e w7 ⟨v, rfl, ⟨Ar, cr, rfl, _⟩, hR, hb⟩; refine ⟨_, rfl, S.step hb, fun _ => ?_⟩; have S' := S.addR hb hR; clear S hb hR; have S := S'; clear S'; refine nr_ ?_; refine cl_ 4 #[.slice Ar 1 cr, .int .i64 2, .int .i64 b.f1, .int .i64 (wid b)] ?_ Tryd.func103; refine (with_any ctx0 _ _ _ 2 b.f1 (wid b) _ (rowC_of S.now.2) HW.out).mono ?_; rintro e w7 ⟨v, rfl, hR, hb⟩; obtain ⟨Aw, cw, rfl⟩ := Kd.R_slice hR; refine ⟨_, rfl, (S.step hb).weak (fun _ h => h.1), fun _ => ?_⟩; have S' := (S.weak (fun _ h => h.1)).addR hb hR; clear S hb hR; have S := S'; clear S'; refine nr_ ?_; refine pu_ 5 ?_; refine done_ (by kernel_rfl) ?_; have S := Aside0.mk S)
     go_wp2_with (first | ((with_reducible refine gate_load rfl ?_); first | refine ev_load S ?_ | refine ev_fld S ?_) | ((with_reducible refine gate_st rfl ?_); refine ev_store S ?_; clear S; intro _ S) | (go_at_call 106; (with_reducible refine (place_any _ _ _ _ _ _ _ (rowC_of S.out.now.2) HP.out).mono ?_); rintro e w7 ⟨rfl, hb⟩; replace S := Aside0.mk (S.out.step hb); clear hb) | (go_at_call 109; (with_reducible refine (rmoved_any a _ _ _ (HA.out.below S.out.below) HF.out.1 HM.out.1 HM.out.2.1 HM.out.2.2.1 HM.out.2.2.2).mono ?_); rintro e w7 ⟨v, rfl, hR, hb⟩; obtain ⟨Ai, ci, rfl⟩ := hR.slice; replace S := Aside0.mk (S.out.addOp hb hR); clear hb hR))
     exact bodyPost_ret (results_ct rfl _ _ _ 41 _ (0, 0) _ rfl (S.out.at_ 0 rfl) Tryd.underlying41 rfl (by kernel_rfl)) rfl ⟨_, rfl, S.out.now.2, S.out.below⟩
   · by_cases heq : a.f1 = b.f1
     · have q1 : (a.f1 == b.f1) = true := beq_iff_eq.mpr heq
       rw [if_neg (show ¬ a.f1 < b.f1 by omega)] at hpl
       have HP := Aside0.mk hpl
       cases e with
       | true =>
        rw [if_pos (.inr ⟨heq.symm, rfl⟩)]
        have HM := HM0 (a.f1 + wid b) (by omega) (by omega)
        clear hpl hpi HM0 hem fat fbw hlt hbi hwb heq
        go_enter Tryd.func96, Tryd.ntmps96
        go_wp2_with (first | ((with_reducible refine gate_box rfl ?_); refine ev_box S ?_; clear S; intro _ _ S) | ((with_reducible refine gate_new rfl ?_); refine ev_new S 41 zA ?_; clear S; intro _ _ S) | ((with_reducible refine gate_load rfl ?_); first | refine ev_load S ?_ | refine ev_fld S ?_) | (go_at_call 108; (with_reducible refine (isC_any a b _ _ HC.out).mono ?_); rintro e w7 ⟨rfl, hb⟩; replace S := Aside0.mk (S.out.step hb); clear hb) | (go_at_call 105; (with_reducible refine (rwidth_any b _ _ (HB.out.below S.out.below) HF.out.2.1 HF.out.2.2).mono ?_); rintro e w7 ⟨rfl, hb⟩; replace S := Aside0.mk (S.out.step hb); clear hb))
        (refine rg_start (n := 6) (fun W => St w W _ _) [] S.out (fun _ h => h.drew) ?_; clear S; intro _ S; refine pu_ 1 ?_; refine fl_ 2 1 S ?_; refine pu_ 3 ?_; refine cl_ 0 #[] ?_ Tryd.func104; refine (context_any _).mono ?_; rintro e w7 ⟨v, rfl, ⟨Ar, cr, rfl, _⟩, hR, hb⟩; refine ⟨_, rfl, S.step hb, fun _ => ?_⟩; have S' := S.addR hb hR; clear S hb hR; have S := S'; clear S'; refine nr_ ?_; refine cl_ 4 #[.slice Ar 1 cr, .int .i64 2, .int .i64 b.f1, .int .i64 (wid b)] ?_ Tryd.func103; refine (with_any ctx0 _ _ _ 2 b.f1 (wid b) _ (rowC_of S.now.2) HW.out).mono ?_; rintro e w7 ⟨v, rfl, hR, hb⟩; obtain ⟨Aw, cw, rfl⟩ := Kd.R_slice hR; refine ⟨_, rfl, (S.step hb).weak (fun _ h => h.1), fun _ => ?_⟩; have S' := (S.weak (fun _ h => h.1)).addR hb hR; clear S hb hR; have S := S'; clear S'; refine nr_ ?_; refine pu_ 5 ?_; refine done_ (by kernel_rfl) ?_; have S := Aside0.mk S)
        go_wp2_with (first | ((with_reducible refine gate_load rfl ?_); first | refine ev_load S ?_ | refine ev_fld S ?_) | ((with_reducible refine gate_st rfl ?_); refine ev_store S ?_; clear S; intro _ S) | (go_at_call 106; (with_reducible refine (place_any _ _ _ _ _ _ _ (rowC_of S.out.now.2) HP.out).mono ?_); rintro e w7 ⟨rfl, hb⟩; replace S := Aside0.mk (S.out.step hb); clear hb) | (go_at_call 109; (with_reducible refine (rmoved_any a _ _ _ (HA.out.below S.out.below) HF.out.1 HM.out.1 HM.out.2.1 HM.out.2.2.1 HM.out.2.2.2).mono ?_); rintro e w7 ⟨v, rfl, hR, hb⟩; obtain ⟨Ai, ci, rfl⟩ := hR.slice; replace S := Aside0.mk (S.out.addOp hb hR); clear hb hR))
        exact bodyPost_ret (results_ct rfl _ _ _ 41 _ (0, 0) _ rfl (S.out.at_ 0 rfl) Tryd.underlying41 rfl (by kernel_rfl)) rfl ⟨_, rfl, S.out.now.2, S.out.below⟩
       | false =>
        rw [if_neg (show ¬ (b.f1 < a.f1 ∨ b.f1 = a.f1 ∧ false = true) from fun h => h.elim hlt (fun h => by cases h.2))]
        have HM := HM0 b.f1 (by omega) (by omega)
        have HQ := Aside0.mk hpi
        rw [heq] at hem
        rw [← hem]
        clear hpl hpi HM0 hem fat fbw hlt hbi hwb heq
        go_enter Tryd.func96, Tryd.ntmps96
        go_wp2_with (first | ((with_reducible refine gate_box rfl ?_); refine ev_box S ?_; clear S; intro _ _ S) | ((with_reducible refine gate_new rfl ?_); refine ev_new S 41 zA ?_; clear S; intro _ _ S) | ((with_reducible refine gate_load rfl ?_); first | refine ev_load S ?_ | refine ev_fld S ?_) | (go_at_call 108; (with_reducible refine (isC_any a b _ _ HC.out).mono ?_); rintro e w7 ⟨rfl, hb⟩; replace S := Aside0.mk (S.out.step hb); clear hb) | (go_at_call 105; (with_reducible refine (rwidth_any b _ _ (HB.out.below S.out.below) HF.out.2.1 HF.out.2.2).mono ?_); rintro e w7 ⟨rfl, hb⟩; replace S := Aside0.mk (S.out.step hb); clear hb))
        (refine rg_start (n := 6) (fun W => St w W _ _) [] S.out (fun _ h => h.drew) ?_; clear S; intro _ S; refine pu_ 1 ?_; refine fl_ 2 1 S ?_; refine pu_ 3 ?_; refine cl_ 0 #[] ?_ Tryd.func104; refine (context_any _).mono ?_; rintro e w7 ⟨v, rfl, ⟨Ar, cr, rfl, _⟩, hR, hb⟩; refine ⟨_, rfl, S.step hb, fun _ => ?_⟩; have S' := S.addR hb hR; clear S hb hR; have S := S'; clear S'; refine nr_ ?_; refine cl_ 4 #[.slice Ar 1 cr, .int .i64 2, .int .i64 b.f1, .int .i64 (wid b)] ?_ Tryd.func103; refine (with_any ctx0 _ _ _ 2 b.f1 (wid b) _ (rowC_of S.now.2) HW.out).mono ?_; rintro e w7 ⟨v, rfl, hR, hb⟩; obtain ⟨Aw, cw, rfl⟩ := Kd.R_slice hR; refine ⟨_, rfl, (S.step hb).weak (fun _ h => h.1), fun _ => ?_⟩; have S' := (S.weak (fun _ h => h.1)).addR hb hR; clear S hb hR; have S := S'; clear S'; refine nr_ ?_; refine pu_ 5 ?_; refine done_ (by kernel_rfl) ?_; have S := Aside0.mk S)
        go_wp2_with (first | ((with_reducible refine gate_load rfl ?_); first | refine ev_load S ?_ | refine ev_fld S ?_) | ((with_reducible refine gate_st rfl ?_); refine ev_store S ?_; clear S; intro _ S) | (go_at_call 106; (with_reducible refine (place_any _ _ _ 2 0 _ _ (rowC_of S.out.now.2) HQ.out).mono ?_); rintro e w7 ⟨rfl, hb⟩; replace S := Aside0.mk (S.out.step hb); clear hb) | (go_at_call 106; (with_reducible refine (place_any _ _ _ _ _ _ _ (rowC_of S.out.now.2) HP.out).mono ?_); rintro e w7 ⟨rfl, hb⟩; replace S := Aside0.mk (S.out.step hb); clear hb) | (go_at_call 109; (with_reducible refine (rmoved_any a _ _ _ (HA.out.below S.out.below) HF.out.1 HM.out.1 HM.out.2.1 HM.out.2.2.1 HM.out.2.2.2).mono ?_); rintro e w7 ⟨v, rfl, hR, hb⟩; obtain ⟨Ai, ci, rfl⟩ := hR.slice; replace S := Aside0.mk (S.out.addOp hb hR); clear hb hR))
        exact bodyPost_ret (results_ct rfl _ _ _ 41 _ (0, 0) _ rfl (S.out.at_ 0 rfl) Tryd.underlying41 rfl (by kernel_rfl)) rfl ⟨_, rfl, S.out.now.2, S.out.below⟩
     · rw [if_neg (show ¬ (b.f1 < a.f1 ∨ b.f1 = a.f1 ∧ e = true) from fun h => h.elim hlt (fun h => heq h.1.symm)), ← hem]
       have q1 : (a.f1 == b.f1) = false := beq_eq_false_iff_ne.mpr heq
       rw [if_pos (show a.f1 < b.f1 by omega)] at hpl
       have HP := Aside0.mk hpl
       have HM := HM0 a.f1 (by omega) (by omega)
       clear hpl hpi HM0 hem fat fbw hlt hbi hwb heq
       go_enter Tryd.func96, Tryd.ntmps96
       go_wp2_with (first | ((with_reducible refine gate_box rfl ?_); refine ev_box S ?_; clear S; intro _ _ S) | ((with_reducible refine gate_new rfl ?_); refine ev_new S 41 zA ?_; clear S; intro _ _ S) | ((with_reducible refine gate_load rfl ?_); first | refine ev_load S ?_ | refine ev_fld S ?_) | (go_at_call 108; (with_reducible refine (isC_any a b _ _ HC.out).mono ?_); rintro e w7 ⟨rfl, hb⟩; replace S := Aside0.mk (S.out.step hb); clear hb) | (go_at_call 105; (with_reducible refine (rwidth_any b _ _ (HB.out.below S.out.below) HF.out.2.1 HF.out.2.2).mono ?_); rintro e w7 ⟨rfl, hb⟩; replace S := Aside0.mk (S.out.step hb); clear hb))
       (refine rg_start (n := 6) (fun W => St w W _ _) [] S.out (fun _ h => h.drew) ?_; clear S; intro _ S; refine pu_ 1 ?_; refine fl_ 2 1 S ?_; refine pu_ 3 ?_; refine cl_ 0 #[] ?_ Tryd.func104; refine (context_any _).mono ?_; rintro e w7 ⟨v, rfl, ⟨Ar, cr, rfl, _⟩, hR, hb⟩; refine ⟨_, rfl, S.step hb, fun _ => ?_⟩; have S' := S.addR hb hR; clear S hb hR; have S := S'; clear S'; refine nr_ ?_; refine cl_ 4 #[.slice Ar 1 cr, .int .i64 2, .int .i64 b.f1, .int .i64 (wid b)] ?_ Tryd.func103; refine (with_any ctx0 _ _ _ 2 b.f1 (wid b) _ (rowC_of S.now.2) HW.out).mono ?_; rintro e w7 ⟨v, rfl, hR, hb⟩; obtain ⟨Aw, cw, rfl⟩ := Kd.R_slice hR; refine ⟨_, rfl, (S.step hb).weak (fun _ h => h.1), fun _ => ?_⟩; have S' := (S.weak (fun _ h => h.1)).addR hb hR; clear S hb hR; have S := S'; clear S'; refine nr_ ?_; refine pu_ 5 ?_; refine done_ (by kernel_rfl) ?_; have S := Aside0.mk S)
       go_wp2_with (first | ((with_reducible refine gate_load rfl ?_); first | refine ev_load S ?_ | refine ev_fld S ?_) | ((with_reducible refine gate_st rfl ?_); refine ev_store S ?_; clear S; intro _ S) | (go_at_call 106; (with_reducible refine (place_any _ _ _ _ _ _ _ (rowC_of S.out.now.2) HP.out).mono ?_); rintro e w7 ⟨rfl, hb⟩; replace S := Aside0.mk (S.out.step hb); clear hb) | (go_at_call 109; (with_reducible refine (rmoved_any a _ _ _ (HA.out.below S.out.below) HF.out.1 HM.out.1 HM.out.2.1 HM.out.2.2.1 HM.out.2.2.2).mono ?_); rintro e w7 ⟨v, rfl, hR, hb⟩; obtain ⟨Ai, ci, rfl⟩ := hR.slice; replace S := Aside0.mk (S.out.addOp hb hR); clear hb hR))
       exact bodyPost_ret (results_ct rfl _ _ _ 41 _ (0, 0) _ rfl (S.out.at_ 0 rfl) Tryd.underlying41 rfl (by kernel_rfl)) rfl ⟨_, rfl, S.out.now.2, S.out.below⟩
 rw [if_neg k1]
 have k1' : (a.f0.f1 == 1) = false := beq_eq_false_iff_ne.mpr k1
 by_cases kh : a.f0.f1 = 2 ∨ a.f0.f1 = 3
 · rw [if_pos kh]
   obtain ⟨k, lf, qf, hf, hll, hcov⟩ := hr kh hk
   rw [← hcov]
   have k4' : (a.f0.f1 == 4) = false := beq_eq_false_iff_ne.mpr (by omega)
   have HP := Aside0.mk hf
   have HL := Aside0.mk hll
   clear hr e3 em ka kh hf hll hcov hbi hwb hk k1
   go_enter Tryd.func96, Tryd.ntmps96
   go_wp2_with (first | ((with_reducible refine gate_box rfl ?_); refine ev_box S ?_; clear S; intro _ _ S) | ((with_reducible refine gate_new rfl ?_); refine ev_new S 41 zA ?_; clear S; intro _ _ S) | ((with_reducible refine gate_load rfl ?_); first | refine ev_load S ?_ | refine ev_fld S ?_) | (go_at_call 108; (with_reducible refine (isC_any a b _ _ HC.out).mono ?_); rintro e w7 ⟨rfl, hb⟩; replace S := Aside0.mk (S.out.step hb); clear hb) | (go_at_call 105; (with_reducible refine (rwidth_any b _ _ (HB.out.below S.out.below) HF.out.2.1 HF.out.2.2).mono ?_); rintro e w7 ⟨rfl, hb⟩; replace S := Aside0.mk (S.out.step hb); clear hb))
   (refine rg_start (n := 6) (fun W => St w W _ _) [] S.out (fun _ h => h.drew) ?_; clear S; intro _ S; refine pu_ 1 ?_; refine fl_ 2 1 S ?_; refine pu_ 3 ?_; refine cl_ 0 #[] ?_ Tryd.func104; refine (context_any _).mono ?_; rintro e w7 ⟨v, rfl, ⟨Ar, cr, rfl, _⟩, hR, hb⟩; refine ⟨_, rfl, S.step hb, fun _ => ?_⟩; have S' := S.addR hb hR; clear S hb hR; have S := S'; clear S'; refine nr_ ?_; refine cl_ 4 #[.slice Ar 1 cr, .int .i64 2, .int .i64 b.f1, .int .i64 (wid b)] ?_ Tryd.func103; refine (with_any ctx0 _ _ _ 2 b.f1 (wid b) _ (rowC_of S.now.2) HW.out).mono ?_; rintro e w7 ⟨v, rfl, hR, hb⟩; obtain ⟨Aw, cw, rfl⟩ := Kd.R_slice hR; refine ⟨_, rfl, (S.step hb).weak (fun _ h => h.1), fun _ => ?_⟩; have S' := (S.weak (fun _ h => h.1)).addR hb hR; clear S hb hR; have S := S'; clear S'; refine nr_ ?_; refine pu_ 5 ?_; refine done_ (by kernel_rfl) ?_; have S := Aside0.mk S)
   go_wp2_with (((with_reducible refine gate_load rfl ?_); first | refine ev_load S ?_ | refine ev_fld S ?_))
   (refine rg_start (n := 10) (fun W => St w W _ _) [] S.out (fun _ h => h.drew) ?_; clear S; intro _ S; refine pu_ 1 ?_; refine pu_ 2 ?_; refine fl_ 3 2 S ?_; refine cl_ 0 #[] ?_ Tryd.func104; refine (context_any _).mono ?_; rintro e w7 ⟨v, rfl, ⟨Ar, cr, rfl, _⟩, hR, hb⟩; refine ⟨_, rfl, S.step hb, fun _ => ?_⟩; have S' := S.addR hb hR; clear S hb hR; have S := S'; clear S'; refine nr_ ?_; refine cl_ 4 #[.slice Ar 1 cr, .slice Aw (ctxWith 2 b.f1 (wid b)).length cw, .slice A a.f3.length c] ?_ Tryd.func110; refine (found_any ctx0 (ctxWith 2 b.f1 (wid b)) a.f3 lf qf _ _ _ A c _ (rowC_of S.now.2) (rowC_of S.now.1.2) H1.out (Kd.C_below H2.out S.below) HP.out).mono ?_; rintro e w7 ⟨v, rfl, hR, hb⟩; obtain ⟨Af, cf, rfl⟩ := Kd.R_slice hR; refine ⟨_, rfl, (S.step hb).weak (fun _ h => h.1), fun _ => ?_⟩; have S' := S.addR hb hR; clear S hb hR; have S := S'; clear S'; refine nr_ ?_; refine pu_ 5 ?_; refine pu_ 6 ?_; refine pu_ 7 ?_; refine pu_ 8 ?_; refine pu_ 9 ?_; refine done_ (by kernel_rfl) ?_; have S := Aside0.mk S)
   go_wp2_with (first | ((with_reducible refine gate_load rfl ?_); first | refine ev_load S ?_ | refine ev_fld S ?_) | ((with_reducible refine gate_st rfl ?_); refine ev_store S ?_; clear S; intro _ S) | (go_at_call 111; (with_reducible refine (covering_any a _ _ _ w _ _ _ S.out ?hbs HA.out S.out.now.2 HL.out).mono ?_); (case hbs => simp [k94_E]); rintro e w7 ⟨v, rfl, ⟨Ai, ci, rfl⟩, hS⟩; replace S := Aside0.mk hS; clear hS))
   exact bodyPost_ret (results_ct rfl _ _ _ 41 _ (0, 0) _ rfl (S.out.at_ 0 rfl) Tryd.underlying41 rfl (by kernel_rfl)) rfl ⟨_, rfl, S.out.now.2, S.out.below⟩
 · rw [if_neg kh]
   have k4' : (a.f0.f1 == 4) = true := beq_iff_eq.mpr (by omega)
   clear hr e3 em ka kh hbi hwb hk k1
   go_enter Tryd.func96, Tryd.ntmps96
   go_wp2_with (first | ((with_reducible refine gate_box rfl ?_); refine ev_box S ?_; clear S; intro _ _ S) | ((with_reducible refine gate_new rfl ?_); refine ev_new S 41 zA ?_; clear S; intro _ _ S) | ((with_reducible refine gate_load rfl ?_); first | refine ev_load S ?_ | refine ev_fld S ?_) | ((with_reducible refine gate_st rfl ?_); refine ev_store S ?_; clear S; intro _ S) | (go_at_call 108; (with_reducible refine (isC_any a b _ _ HC.out).mono ?_); rintro e w7 ⟨rfl, hb⟩; replace S := Aside0.mk (S.out.step hb); clear hb) | (go_at_call 22; (with_reducible refine (rcopy_any a _ _ (HA.out.below S.out.below) HF.out.1).mono ?_); rintro e w7 ⟨v, rfl, hR, hb⟩; obtain ⟨Ao, co, rfl⟩ := hR.slice; replace S := Aside0.mk (S.out.addOp hb hR); clear hb hR))
   exact bodyPost_ret (results_ct rfl _ _ _ 41 _ (0, 0) _ rfl (S.out.at_ 0 rfl) Tryd.underlying41 rfl (by kernel_rfl)) rfl ⟨_, rfl, S.out.now.2, S.out.below⟩
end Go.Proofs.YtloccjkcmlkifaaDoor
end

section
/- The document finds of ranges behind an insert what span.Through makes of them; an include of what is right is right. -/
namespace Go.Proofs.YtloccjkcmlkifaaDoor
open Go.RowKit Go.Proofs.YtloccjkcmlkifaaDoor.PAll Go.Proofs.YtloccjkcmlkifaaDoorW.PrintWords

theorem found_loop (l : List S94) (p n : Int) (hp : 0 ≤ p ∧ p ≤ 1048576) (hn : 1 ≤ n ∧ n ≤ 1048576) (hL : l.length ≤ 1048576) (R : List S94) (K : Nat) (hR : ∀ k, K ≤ k → redraftref02_Places.f k (thrS p n l) = some R) :
 ∀ (d k i : Nat) (out : List S94) (x : Int), l.length = i + d → -1 ≤ x → Nrm x (l.drop i) → out ++ thrS p n (l.drop i) = thrS p n l → out.length ≤ 2 * i → K + 2 * d + 10 ≤ k →
 redraftref05_found.l1 k ctx0 (ctxWith 2 p n) l out 0 (i : Int) 0 2097152 (i : Int) 0 0 2097152 = some (R, 0) := by
 intro d
 induction d with
 | zero =>
  intro k i out x h1 hx hN ho hol hk
  obtain ⟨k, rfl⟩ : ∃ m, k = m + 3 := ⟨k - 3, by omega⟩
  rw [List.drop_eq_nil_of_le (by omega)] at ho
  have ho' : out = thrS p n l := by simpa [thrS] using ho
  have q1 : ¬ (i : Int) < (l.length : Int) := by omega
  have w : wrap64 (0 + 1) = 1 := by unfold wrap64; omega
  have q2 : ¬ (1 : Int) < ((ctx0).length : Int) := by simp
  rw [show k + 3 = (k + 2) + 1 from rfl, redraftref05_found.l1, if_neg q1, show k + 2 = (k + 1) + 1 from rfl, redraftref05_found.j2, if_neg (by simp), w, redraftref05_found.l0, if_neg q2, ho', hR k (by omega)]
  rfl
 | succ d ih =>
  intro k i out x h1 hx hN ho hol hk
  obtain ⟨k, rfl⟩ : ∃ m, k = m + 2 := ⟨k - 2, by omega⟩
  have hi : i < l.length := by omega
  obtain ⟨r, hr⟩ : ∃ r, r = l.getD i z94 := ⟨_, rfl⟩
  have hd : l.drop i = r :: l.drop (i + 1) := by
   rw [hr, List.drop_eq_getElem_cons hi, List.getD_eq_getElem?_getD, List.getElem?_eq_getElem hi]; rfl
  have e : rd_T94 l (i : Int) = r := by unfold rd_T94; rw [Int.toNat_natCast, hr]
  rw [hd] at hN
  obtain ⟨b1, b2, b3, b4⟩ := hN
  have q1 : (i : Int) < (l.length : Int) := by omega
  have q2 : (0 : Int) ≤ (i : Int) := by omega
  have q3 : out.length + (sp p n ⟨r.f0, r.f1⟩).length < 8796093022208 := by have := sp_len p n ⟨r.f0, r.f1⟩; omega
  have q4 : ¬ r.f1 > 2097152 := by omega
  have q5 : ¬ ((sp p n ⟨r.f0, r.f1⟩).length : Int) = 0 := by
   have : 0 < (sp p n ⟨r.f0, r.f1⟩).length := by
    unfold sp
    split
    · simp
    · split <;> simp
   omega
  have q6 : decide (r.f0 < 2097152) = true := decide_eq_true (by omega)
  have m1 : mx r.f0 0 = r.f0 := by unfold mx; split <;> omega
  have m2 : mn r.f1 2097152 = r.f1 := by unfold mn; split <;> omega
  have hk' : K + 2 * d + 10 ≤ k := by omega
  have hka : 4 ≤ k := by omega
  have g1 : l.length = (i + 1) + d := by omega
  have g2 : -1 ≤ r.f1 := by omega
  have g3 : (out ++ sp p n ⟨r.f0, r.f1⟩).length ≤ 2 * (i + 1) := by have := sp_len p n ⟨r.f0, r.f1⟩; simp; omega
  have am := among_ctx (k - 4) p n r.f0 r.f1 hp hn ⟨by omega, b2, b3⟩
  rw [show k - 4 + 4 = k by omega] at am
  have w1 : wrap64 (wrap64 (0 + r.f0) - 0) = r.f0 := by rw [wrap_id (n := 0 + r.f0) (by omega) (by omega), wrap_id (by omega) (by omega)]; omega
  have w2 : wrap64 (wrap64 (0 + r.f1) - 0) = r.f1 := by rw [wrap_id (n := 0 + r.f1) (by omega) (by omega), wrap_id (by omega) (by omega)]; omega
  have w3 : wrap64 ((i : Int) + 1) = ((i + 1 : Nat) : Int) := by rw [wrap_id (by omega) (by omega)]; omega
  rw [show k + 2 = (k + 1) + 1 from rfl, redraftref05_found.l1, if_pos q1, if_pos q2, e, q6, redraftref05_found.j2, if_pos rfl, if_pos q2, if_pos q1, e, m1, m2, w1, w2, am]
  simp only [Option.bind_some]
  rw [if_neg q5, if_pos q3]
  show (if r.f1 > 2097152 then _ else _) = _
  rw [if_neg q4, w3]
  refine ih k (i + 1) _ r.f1 g1 g2 b4 ?_ g3 hk'
  rw [← ho, hd]
  show _ = out ++ (sp p n r ++ thrS p n (l.drop (i + 1)))
  rw [List.append_assoc]
theorem found_is (l : List S94) (p n : Int) (hp : 0 ≤ p ∧ p ≤ 1048576) (hn : 1 ≤ n ∧ n ≤ 1048576) (hl : (rngE l).2 = 0) : ∃ k, redraftref05_found.f k ctx0 (ctxWith 2 p n) l = some (thrS p n l, 0) := by
 obtain ⟨hlen, hN⟩ := rng_ok hl
 have hg := thrS_nrm p n hn.1 l (-1) hN
 have htl := thr_len p n l
 obtain ⟨K, hK⟩ := places_is (thrS p n l) hg.gap.wk (by omega)
 rw [gap_join _ hg.gap] at hK
 have := found_loop l p n hp hn (by omega) (thrS p n l) K hK l.length (K + 2 * l.length + 10) 0 [] (-1) (by omega) (by omega) (by simpa using hN) (by simp) (by simp) (by omega)
 refine ⟨K + 2 * l.length + 11, ?_⟩
 have w : wrap64 (wrap64 (0 + 2097152) - 0) = 2097152 := by unfold wrap64; omega
 unfold redraftref05_found.f
 rw [show K + 2 * l.length + 11 = (K + 2 * l.length + 10) + 1 from rfl, redraftref05_found.l0, if_pos (by simp), if_pos (by omega)]
 have e : rd_T154 ctx0 0 = ⟨0, 0, 2097152⟩ := rfl
 rw [e]
 simp only
 rw [w]
 exact this

structure Good (o : S41) : Prop where
 own : ownE o = 0
 fine : fineOp o
theorem nrm_last {x : Int} : ∀ {l : List S94}, Nrm x l → 0 < l.length → 0 ≤ x + 1 → 0 ≤ lastHi l ∧ lastHi l ≤ 1048576
 | [r], h, _, hx => ⟨by show 0 ≤ r.f1; have := h.1; have := h.2.1; omega, h.2.2.1⟩
 | r :: s :: t, h, _, hx => nrm_last (l := s :: t) h.2.2.2 (by simp) (by have := h.1; have := h.2.1; omega)
theorem last_bound {l : List S94} (h : (rngE l).2 = 0) : -1048576 ≤ lastHi l ∧ lastHi l ≤ 1048576 := by
 obtain ⟨_, hN⟩ := rng_ok h
 by_cases h0 : 0 < l.length
 · have := nrm_last hN h0 (by omega); omega
 · have e : l = [] := List.eq_nil_of_length_eq_zero (by omega)
   rw [e]
   show -1048576 ≤ z94.f1 ∧ z94.f1 ≤ 1048576
   unfold z94; simp
theorem Good.rng {o : S41} (g : Good o) (h : o.f0.f1 = 2 ∨ o.f0.f1 = 3) : (rngE o.f3).2 = 0 := ((own_ok g.own).2.2.2.2.2.1 h).2.1
theorem Good.kind {o : S41} (g : Good o) : o.f0.f1 = 1 ∨ o.f0.f1 = 2 ∨ o.f0.f1 = 3 ∨ o.f0.f1 = 4 := by have := own_ok g.own; omega
theorem Good.extra {o : S41} (g : Good o) : extraB o = false := (own_ok g.own).2.2.2.1
theorem Good.noRanges {o : S41} (g : Good o) (h : o.f0.f1 = 1 ∨ o.f0.f1 = 4) : o.f3 = [] := by
 have he := g.extra
 unfold extraB at he
 have := of_decide_eq_false he
 refine List.eq_nil_of_length_eq_zero (Nat.eq_zero_of_not_pos fun hp => this (.inr (.inl ⟨by omega, by omega, by omega⟩)))
theorem Good.noAt {o : S41} (g : Good o) (h : o.f0.f1 ≠ 1) : o.f1 = 0 := by
 have he := g.extra
 unfold extraB at he
 have := of_decide_eq_false he
 by_cases hz : o.f1 = 0
 · exact hz
 · exact absurd (.inl ⟨h, .inl hz⟩) this
theorem Good.fit {o : S41} (g : Good o) : Fit o := by
 have hb := chk_bound o.f2 g.fine.1
 refine ⟨g.fine.2, ?_, ?_⟩
 · by_cases h : o.f0.f1 = 1
   · have := own_ins g.own g.fine.1 h; omega
   · rw [g.noAt h]; omega
 · unfold wid
   have := g.fine.1
   split <;> omega
theorem Good.wid1 {o : S41} (g : Good o) (h : o.f0.f1 = 1) : 1 ≤ wid o ∧ wid o ≤ 256 ∧ 0 ≤ o.f1 ∧ o.f1 + wid o ≤ 1048576 := by
 have := own_ins g.own g.fine.1 h
 have e : wid o = (chk o.f2).1 := if_pos h
 omega
theorem Good.move0 {o : S41} (g : Good o) (h : o.f0.f1 = 1) : moveE o o.f1 = (o, 0) := by
 have := g.wid1 h
 unfold moveE
 rw [if_neg (by omega)]
 have e := g.noRanges (.inl h)
 obtain ⟨f0, f1, f2, f3, f4, f5⟩ := o
 simp only at e
 rw [e]
def incE (a b : S41) (e : Bool) : S41 × Int := incP a b e (thrE a.f3 b.f1 (wid b))
theorem incE_prog (a b : S41) (e : Bool) (va vb : Value) (w : World) (hG : GW w) (ha : OpC w va a) (hb : OpC w vb b) (ga : Good a) (gb : Good b) :
 Calls Tryd.prog 56 #[.agg (opA a va), .agg (opA b vb), .bool e] w (RetOp w (incE a b e)) :=
 include_any a b e va vb _ w hG ha hb ga.fit.len ga.fit.at_ ga.fit.wid gb.fit.wid fun h1 h2 => by
  have hb1 := gb.wid1 h2
  exact through_is a.f3 b.f1 (wid b) (ga.rng h1) ⟨hb1.2.2.1, by omega⟩ ⟨hb1.1, by omega⟩ (last_bound (ga.rng h1))
theorem incE_ref (a b : S41) (e : Bool) (va vb : Value) (w : World) (ha : OpC w va a) (hb : OpC w vb b) (ga : Good a) (gb : Good b) :
 Calls Tryd.prog 96 #[.agg (opA a va), .agg (opA b vb), .bool e] w (RetOp w (incE a b e)) :=
 rinclude_any a b e va vb _ w ha hb ga.fit gb.fit ga.fine gb.fine ga.own gb.own (fun h => ga.noRanges (.inl h)) ga.move0 fun h1 h2 => by
  have hb1 := gb.wid1 h2
  obtain ⟨k, hk⟩ := found_is a.f3 b.f1 (wid b) ⟨hb1.2.2.1, by omega⟩ ⟨hb1.1, by omega⟩ (ga.rng h1)
  have := thr_len b.f1 (wid b) a.f3
  have := ga.fine.2
  exact ⟨k, _, _, hk, by omega, cov_thr a b.f1 (wid b) (last_bound (ga.rng h1)).2⟩
end Go.Proofs.YtloccjkcmlkifaaDoor
end

section
/- xform.exclude, told of whole operations. -/
namespace Go.Proofs.YtloccjkcmlkifaaDoor
open Go.RowKit Go.Proofs.YtloccjkcmlkifaaDoor.PAll Go.Proofs.YtloccjkcmlkifaaDoorW.PrintWords

attribute [local go_sem high] eqA35 idx35_0 idx35_1
def aimB (a b : S41) : Bool := a.f4.f0 == b.f0.f0.f0 && a.f4.f1 == b.f0.f0.f1
def excP (a b : S41) (r : List S94 × List S94 × Int) : S41 × Int :=
 if clashB a b = true then (z41, 50) else if a.f0.f1 = 4 then (if aimB a b = true then (z41, 23) else (a, 0)) else if b.f0.f1 ≠ 1 then (a, 0)
 else if a.f0.f1 = 1 then (if a.f1 ≤ b.f1 then (a, 0) else if b.f1 + wid b ≤ a.f1 then moveE a (a.f1 - wid b) else (z41, 23))
 else rangedE a (r.1, if r.2.2 = 0 ∧ 0 < r.2.1.length then 23 else r.2.2)

set_option maxRecDepth 100000 in
set_option maxHeartbeats 4000000 in
theorem exclude_any (a b : S41) (va vb : Value) (r : List S94 × List S94 × Int) (w : World) (hG : GW w) (ha : OpC w va a) (hb : OpC w vb b) (hl : a.f3.length ≤ 1048576)
 (hp : 0 ≤ a.f1 ∧ a.f1 ≤ 1048576) (hpb : 0 ≤ b.f1 ∧ b.f1 ≤ 1048576) (hwa : 0 ≤ wid a ∧ wid a ≤ 1048576) (hwb : 0 ≤ wid b ∧ wid b ≤ 1048576)
 (hr : a.f0.f1 ≠ 1 → a.f0.f1 ≠ 4 → b.f0.f1 = 1 → ∃ k, span_Back.f k a.f3 b.f1 (wid b) = some r) :
 Calls Tryd.prog 75 #[.agg (opA a va), .agg (opA b vb)] w (RetOp w (excP a b r)) := by
 obtain ⟨A, c, rfl, h1, h2⟩ := ha
 obtain ⟨B, d, rfl, h3, h4⟩ := hb
 have S := Aside0.mk (St.init w (F := fun _ => True) (fun _ _ => trivial))
 have H1 := Aside0.mk h1; have H2 := Aside0.mk h2
 have HA := Aside0.mk (opC_mk h1 h2); have HB := Aside0.mk (opC_mk h3 h4)
 have HG := Aside0.mk hG
 clear h1 h2 h3 h4 hG
 unfold excP
 by_cases hcl : clashB a b = true
 · rw [if_pos hcl]
   have HC := Aside0.mk hcl
   clear hcl hr
   go_enter Tryd.func75, Tryd.ntmps75
   go_wp2_with (first | ((with_reducible refine gate_box rfl ?_); refine ev_box S ?_; clear S; intro _ _ S) | ((with_reducible refine gate_new rfl ?_); refine ev_new S 41 zA ?_; clear S; intro _ _ S) | ((with_reducible refine gate_load rfl ?_); first | refine ev_load S ?_ | refine ev_fld S ?_) | ((with_reducible refine gate_st rfl ?_); refine ev_store S ?_; clear S; intro _ S) | (go_at_call 71; (with_reducible refine (clash_any a b _ _ _ _ (HA.out.below S.out.below) (HB.out.below S.out.below) HC.out).mono ?_); rintro e w7 ⟨rfl, hb⟩; replace S := Aside0.mk (S.out.step hb); clear hb))
   exact bodyPost_ret (results_ct rfl _ _ _ 41 zA (0, 0) _ rfl (S.out.at_ 0 rfl) Tryd.underlying41 rfl (by kernel_rfl)) rfl ⟨.slice none 0 0, rfl, opR_nil _ _, S.out.below⟩
 rw [if_neg hcl]
 have HC : Aside0 (clashB a b = false) := ⟨by simpa using hcl⟩
 clear hcl
 by_cases k4 : a.f0.f1 = 4
 · rw [if_pos k4]
   have k4' : (a.f0.f1 == 4) = true := beq_iff_eq.mpr k4
   clear k4 hr hp hpb hwa hwb
   by_cases t0 : a.f4.f0 = b.f0.f0.f0 ∧ a.f4.f1 = b.f0.f0.f1
   · rw [if_pos (by unfold aimB; simp [t0.1, t0.2])]
     have e0 : (a.f4.f0 == b.f0.f0.f0) = true := by simp [t0.1]
     have e1 : (a.f4.f1 == b.f0.f0.f1) = true := by simp [t0.2]
     clear t0
     go_enter Tryd.func75, Tryd.ntmps75
     go_wp2_with (first | ((with_reducible refine gate_box rfl ?_); refine ev_box S ?_; clear S; intro _ _ S) | ((with_reducible refine gate_new rfl ?_); refine ev_new S 41 zA ?_; clear S; intro _ _ S) | ((with_reducible refine gate_load rfl ?_); first | refine ev_load S ?_ | refine ev_fld S ?_) | ((with_reducible refine gate_st rfl ?_); refine ev_store S ?_; clear S; intro _ S) | (go_at_call 71; (with_reducible refine (clash_any a b _ _ _ _ (HA.out.below S.out.below) (HB.out.below S.out.below) HC.out).mono ?_); rintro e w7 ⟨rfl, hb⟩; replace S := Aside0.mk (S.out.step hb); clear hb))
     exact bodyPost_ret (results_ct rfl _ _ _ 41 zA (0, 0) _ rfl (S.out.at_ 0 rfl) Tryd.underlying41 rfl (by kernel_rfl)) rfl ⟨.slice none 0 0, rfl, opR_nil _ _, S.out.below⟩
   · rw [if_neg (by unfold aimB; simp only [Bool.and_eq_true, beq_iff_eq]; exact t0)]
     have e2 : (a.f4.f0 == b.f0.f0.f0) = true ∧ (a.f4.f1 == b.f0.f0.f1) = false ∨ (a.f4.f0 == b.f0.f0.f0) = false := by
      by_cases q : a.f4.f0 = b.f0.f0.f0
      · exact .inl ⟨by simp [q], by simp only [beq_eq_false_iff_ne]; exact fun h => t0 ⟨q, h⟩⟩
      · exact .inr (by simpa using q)
     clear t0
     rcases e2 with ⟨e0, e1⟩ | e0
     all_goals
      go_enter Tryd.func75, Tryd.ntmps75
      go_wp2_with (first | ((with_reducible refine gate_box rfl ?_); refine ev_box S ?_; clear S; intro _ _ S) | ((with_reducible refine gate_new rfl ?_); refine ev_new S 41 zA ?_; clear S; intro _ _ S) | ((with_reducible refine gate_load rfl ?_); first | refine ev_load S ?_ | refine ev_fld S ?_) | ((with_reducible refine gate_st rfl ?_); refine ev_store S ?_; clear S; intro _ S) | (go_at_call 71; (with_reducible refine (clash_any a b _ _ _ _ (HA.out.below S.out.below) (HB.out.below S.out.below) HC.out).mono ?_); rintro e w7 ⟨rfl, hb⟩; replace S := Aside0.mk (S.out.step hb); clear hb) | (go_at_call 64; (with_reducible refine (clone_any a _ _ (HA.out.below S.out.below) hl).mono ?_); rintro e w7 ⟨v, rfl, hR, hb⟩; obtain ⟨Ao, co, rfl⟩ := hR.slice; replace S := Aside0.mk (S.out.addOp hb hR); clear hb hR))
      exact bodyPost_ret (results_ct rfl _ _ _ 41 _ (0, 0) _ rfl (S.out.at_ 0 rfl) Tryd.underlying41 rfl (by kernel_rfl)) rfl ⟨_, rfl, S.out.now.2, S.out.below⟩
 rw [if_neg k4]
 have k4' : (a.f0.f1 == 4) = false := beq_eq_false_iff_ne.mpr k4
 by_cases hk : b.f0.f1 = 1
 case neg =>
  rw [if_pos hk]
  have hk' : (b.f0.f1 != 1) = true := bne_iff_ne.mpr hk
  clear hk hr k4 hp hpb hwa hwb
  go_enter Tryd.func75, Tryd.ntmps75
  go_wp2_with (first | ((with_reducible refine gate_box rfl ?_); refine ev_box S ?_; clear S; intro _ _ S) | ((with_reducible refine gate_new rfl ?_); refine ev_new S 41 zA ?_; clear S; intro _ _ S) | ((with_reducible refine gate_load rfl ?_); first | refine ev_load S ?_ | refine ev_fld S ?_) | ((with_reducible refine gate_st rfl ?_); refine ev_store S ?_; clear S; intro _ S) | (go_at_call 71; (with_reducible refine (clash_any a b _ _ _ _ (HA.out.below S.out.below) (HB.out.below S.out.below) HC.out).mono ?_); rintro e w7 ⟨rfl, hb⟩; replace S := Aside0.mk (S.out.step hb); clear hb) | (go_at_call 64; (with_reducible refine (clone_any a _ _ (HA.out.below S.out.below) hl).mono ?_); rintro e w7 ⟨v, rfl, hR, hb⟩; obtain ⟨Ao, co, rfl⟩ := hR.slice; replace S := Aside0.mk (S.out.addOp hb hR); clear hb hR))
  exact bodyPost_ret (results_ct rfl _ _ _ 41 _ (0, 0) _ rfl (S.out.at_ 0 rfl) Tryd.underlying41 rfl (by kernel_rfl)) rfl ⟨_, rfl, S.out.now.2, S.out.below⟩
 rw [if_neg (show ¬ b.f0.f1 ≠ 1 from fun h => h hk)]
 have hk' : (b.f0.f1 != 1) = false := bne_eq_false_iff_eq.mpr hk
 by_cases ka : a.f0.f1 = 1
 · rw [if_pos ka]
   have ka' : (a.f0.f1 == 1) = true := beq_iff_eq.mpr ka
   clear ka k4 hk hr
   by_cases c1 : a.f1 ≤ b.f1
   · rw [if_pos c1]
     have c1' : decide (a.f1 ≤ b.f1) = true := decide_eq_true c1
     clear c1 hp hpb hwa hwb
     go_enter Tryd.func75, Tryd.ntmps75
     go_wp2_with (first | ((with_reducible refine gate_box rfl ?_); refine ev_box S ?_; clear S; intro _ _ S) | ((with_reducible refine gate_new rfl ?_); refine ev_new S 41 zA ?_; clear S; intro _ _ S) | ((with_reducible refine gate_load rfl ?_); first | refine ev_load S ?_ | refine ev_fld S ?_) | ((with_reducible refine gate_st rfl ?_); refine ev_store S ?_; clear S; intro _ S) | (go_at_call 71; (with_reducible refine (clash_any a b _ _ _ _ (HA.out.below S.out.below) (HB.out.below S.out.below) HC.out).mono ?_); rintro e w7 ⟨rfl, hb⟩; replace S := Aside0.mk (S.out.step hb); clear hb) | (go_at_call 53; (with_reducible refine (width_any b _ _ (GW.below HG.out S.out.below) (HB.out.below S.out.below)).mono ?_); rintro e w7 ⟨rfl, hb⟩; replace S := Aside0.mk (S.out.step hb); clear hb) | (go_at_call 64; (with_reducible refine (clone_any a _ _ (HA.out.below S.out.below) hl).mono ?_); rintro e w7 ⟨v, rfl, hR, hb⟩; obtain ⟨Ao, co, rfl⟩ := hR.slice; replace S := Aside0.mk (S.out.addOp hb hR); clear hb hR))
     exact bodyPost_ret (results_ct rfl _ _ _ 41 _ (0, 0) _ rfl (S.out.at_ 0 rfl) Tryd.underlying41 rfl (by kernel_rfl)) rfl ⟨_, rfl, S.out.now.2, S.out.below⟩
   · rw [if_neg c1]
     have c1' : decide (a.f1 ≤ b.f1) = false := decide_eq_false c1
     have hw := show IntKind.i64.wrap (b.f1 + wid b) = b.f1 + wid b from IntWalk.i64_in _ (by omega)
     have HM := Aside0.mk (show (-4611686018427387904 ≤ a.f1 - wid b ∧ a.f1 - wid b ≤ 4611686018427387904) ∧ (-4611686018427387904 ≤ wid a ∧ wid a ≤ 4611686018427387000) by omega)
     have hw2 := show IntKind.i64.wrap (a.f1 - wid b) = a.f1 - wid b from IntWalk.i64_in _ (by omega)
     clear c1 hp hpb hwa hwb
     by_cases c2 : b.f1 + wid b ≤ a.f1
     · rw [if_pos c2]
       have c2' : decide (b.f1 + wid b ≤ a.f1) = true := decide_eq_true c2
       clear c2
       go_enter Tryd.func75, Tryd.ntmps75
       go_wp2_with (first | ((with_reducible refine gate_box rfl ?_); refine ev_box S ?_; clear S; intro _ _ S) | ((with_reducible refine gate_new rfl ?_); refine ev_new S 41 zA ?_; clear S; intro _ _ S) | ((with_reducible refine gate_load rfl ?_); first | refine ev_load S ?_ | refine ev_fld S ?_) | ((with_reducible refine gate_st rfl ?_); refine ev_store S ?_; clear S; intro _ S) | (go_at_call 71; (with_reducible refine (clash_any a b _ _ _ _ (HA.out.below S.out.below) (HB.out.below S.out.below) HC.out).mono ?_); rintro e w7 ⟨rfl, hb⟩; replace S := Aside0.mk (S.out.step hb); clear hb) | (go_at_call 53; (with_reducible refine (width_any b _ _ (GW.below HG.out S.out.below) (HB.out.below S.out.below)).mono ?_); rintro e w7 ⟨rfl, hb⟩; replace S := Aside0.mk (S.out.step hb); clear hb) | (go_at_call 72; (with_reducible refine (moved_any a _ (a.f1 - wid b) _ (GW.below HG.out S.out.below) (HA.out.below S.out.below) HM.out.1 HM.out.2).mono ?_); rintro e w7 ⟨v, rfl, hR, hb⟩; obtain ⟨Ao, co, rfl⟩ := hR.slice; replace S := Aside0.mk (S.out.addOp hb hR); clear hb hR))
       exact bodyPost_ret (results_ct rfl _ _ _ 41 _ (0, 0) _ rfl (S.out.at_ 0 rfl) Tryd.underlying41 rfl (by kernel_rfl)) rfl ⟨_, rfl, S.out.now.2, S.out.below⟩
     · rw [if_neg c2]
       have c2' : decide (b.f1 + wid b ≤ a.f1) = false := decide_eq_false c2
       clear c2
       go_enter Tryd.func75, Tryd.ntmps75
       go_wp2_with (first | ((with_reducible refine gate_box rfl ?_); refine ev_box S ?_; clear S; intro _ _ S) | ((with_reducible refine gate_new rfl ?_); refine ev_new S 41 zA ?_; clear S; intro _ _ S) | ((with_reducible refine gate_load rfl ?_); first | refine ev_load S ?_ | refine ev_fld S ?_) | ((with_reducible refine gate_st rfl ?_); refine ev_store S ?_; clear S; intro _ S) | (go_at_call 71; (with_reducible refine (clash_any a b _ _ _ _ (HA.out.below S.out.below) (HB.out.below S.out.below) HC.out).mono ?_); rintro e w7 ⟨rfl, hb⟩; replace S := Aside0.mk (S.out.step hb); clear hb) | (go_at_call 53; (with_reducible refine (width_any b _ _ (GW.below HG.out S.out.below) (HB.out.below S.out.below)).mono ?_); rintro e w7 ⟨rfl, hb⟩; replace S := Aside0.mk (S.out.step hb); clear hb))
       exact bodyPost_ret (results_ct rfl _ _ _ 41 zA (0, 0) _ rfl (S.out.at_ 0 rfl) Tryd.underlying41 rfl (by kernel_rfl)) rfl ⟨.slice none 0 0, rfl, opR_nil _ _, S.out.below⟩
 · rw [if_neg ka]
   have ka' : (a.f0.f1 == 1) = false := beq_eq_false_iff_ne.mpr ka
   obtain ⟨k, hq⟩ := hr ka k4 hk
   have HT := Aside0.mk hq
   clear hr hq ka k4 hk hp hpb hwa hwb
   by_cases e0 : r.2.2 = 0
   · have e0' : (r.2.2 == 0) = true := beq_iff_eq.mpr e0
     by_cases l0 : 0 < r.2.1.length
     · rw [if_pos ⟨e0, l0⟩]
       have l1 : ¬ r.2.1 = [] := fun h => by rw [h] at l0; simp at l0
       have l2 : decide (0 < r.2.1.length) = true := decide_eq_true l0
       clear e0 l0
       go_enter Tryd.func75, Tryd.ntmps75
       go_wp2_with (first | ((with_reducible refine gate_box rfl ?_); refine ev_box S ?_; clear S; intro _ _ S) | ((with_reducible refine gate_new rfl ?_); refine ev_new S 41 zA ?_; clear S; intro _ _ S) | ((with_reducible refine gate_load rfl ?_); first | refine ev_load S ?_ | refine ev_fld S ?_) | ((with_reducible refine gate_st rfl ?_); refine ev_store S ?_; clear S; intro _ S) | (go_at_call 71; (with_reducible refine (clash_any a b _ _ _ _ (HA.out.below S.out.below) (HB.out.below S.out.below) HC.out).mono ?_); rintro e w7 ⟨rfl, hb⟩; replace S := Aside0.mk (S.out.step hb); clear hb) | (go_at_call 53; (with_reducible refine (width_any b _ _ (GW.below HG.out S.out.below) (HB.out.below S.out.below)).mono ?_); rintro e w7 ⟨rfl, hb⟩; replace S := Aside0.mk (S.out.step hb); clear hb) | (go_at_call 94; (with_reducible refine (span_Back.calls k A c a.f3 b.f1 (wid b) r.1 r.2.1 r.2.2 _ (Kd.C_below H2.out S.out.below) H1.out HT.out).mono ?_); rintro e w7 ⟨v, u, rfl, hR, hR2, hb⟩; replace hR := Kd.R_mono hR (fun _ _ => trivial); replace hR2 := Kd.R_mono hR2 (fun _ _ => trivial); obtain ⟨Ao, co, rfl⟩ := Kd.R_slice hR; obtain ⟨Ai, ci, rfl⟩ := Kd.R_slice hR2; replace S := Aside0.mk (S.out.addR2 hb hR hR2); clear hb hR hR2) | (go_at_call 74; (with_reducible refine (ranged_any a _ (r.1, 23) _ w _ _ _ S.out ?hbs HA.out S.out.now.1.2).mono ?_); (case hbs => simp [k94_E]); rintro e w7 ⟨v, rfl, ⟨Ao, co, rfl⟩, hS⟩; replace S := Aside0.mk hS; clear hS))
       exact bodyPost_ret (results_ct rfl _ _ _ 41 _ (0, 0) _ rfl (S.out.at_ 0 rfl) Tryd.underlying41 rfl (by kernel_rfl)) rfl ⟨_, rfl, S.out.now.2, S.out.below⟩
     · rw [if_neg (fun h => l0 h.2)]
       have l1 : r.2.1 = [] := List.eq_nil_of_length_eq_zero (by omega)
       have l2 : decide (0 < r.2.1.length) = false := decide_eq_false l0
       clear e0 l0
       go_enter Tryd.func75, Tryd.ntmps75
       go_wp2_with (first | ((with_reducible refine gate_box rfl ?_); refine ev_box S ?_; clear S; intro _ _ S) | ((with_reducible refine gate_new rfl ?_); refine ev_new S 41 zA ?_; clear S; intro _ _ S) | ((with_reducible refine gate_load rfl ?_); first | refine ev_load S ?_ | refine ev_fld S ?_) | ((with_reducible refine gate_st rfl ?_); refine ev_store S ?_; clear S; intro _ S) | (go_at_call 71; (with_reducible refine (clash_any a b _ _ _ _ (HA.out.below S.out.below) (HB.out.below S.out.below) HC.out).mono ?_); rintro e w7 ⟨rfl, hb⟩; replace S := Aside0.mk (S.out.step hb); clear hb) | (go_at_call 53; (with_reducible refine (width_any b _ _ (GW.below HG.out S.out.below) (HB.out.below S.out.below)).mono ?_); rintro e w7 ⟨rfl, hb⟩; replace S := Aside0.mk (S.out.step hb); clear hb) | (go_at_call 94; (with_reducible refine (span_Back.calls k A c a.f3 b.f1 (wid b) r.1 r.2.1 r.2.2 _ (Kd.C_below H2.out S.out.below) H1.out HT.out).mono ?_); rintro e w7 ⟨v, u, rfl, hR, hR2, hb⟩; replace hR := Kd.R_mono hR (fun _ _ => trivial); replace hR2 := Kd.R_mono hR2 (fun _ _ => trivial); obtain ⟨Ao, co, rfl⟩ := Kd.R_slice hR; obtain ⟨Ai, ci, rfl⟩ := Kd.R_slice hR2; replace S := Aside0.mk (S.out.addR2 hb hR hR2); clear hb hR hR2) | (go_at_call 74; (with_reducible refine (ranged_any a _ (r.1, r.2.2) _ w _ _ _ S.out ?hbs HA.out S.out.now.1.2).mono ?_); (case hbs => simp [k94_E]); rintro e w7 ⟨v, rfl, ⟨Ao, co, rfl⟩, hS⟩; replace S := Aside0.mk hS; clear hS))
       exact bodyPost_ret (results_ct rfl _ _ _ 41 _ (0, 0) _ rfl (S.out.at_ 0 rfl) Tryd.underlying41 rfl (by kernel_rfl)) rfl ⟨_, rfl, S.out.now.2, S.out.below⟩
   · rw [if_neg (fun h => e0 h.1)]
     have e0' : (r.2.2 == 0) = false := beq_eq_false_iff_ne.mpr e0
     clear e0
     go_enter Tryd.func75, Tryd.ntmps75
     go_wp2_with (first | ((with_reducible refine gate_box rfl ?_); refine ev_box S ?_; clear S; intro _ _ S) | ((with_reducible refine gate_new rfl ?_); refine ev_new S 41 zA ?_; clear S; intro _ _ S) | ((with_reducible refine gate_load rfl ?_); first | refine ev_load S ?_ | refine ev_fld S ?_) | ((with_reducible refine gate_st rfl ?_); refine ev_store S ?_; clear S; intro _ S) | (go_at_call 71; (with_reducible refine (clash_any a b _ _ _ _ (HA.out.below S.out.below) (HB.out.below S.out.below) HC.out).mono ?_); rintro e w7 ⟨rfl, hb⟩; replace S := Aside0.mk (S.out.step hb); clear hb) | (go_at_call 53; (with_reducible refine (width_any b _ _ (GW.below HG.out S.out.below) (HB.out.below S.out.below)).mono ?_); rintro e w7 ⟨rfl, hb⟩; replace S := Aside0.mk (S.out.step hb); clear hb) | (go_at_call 94; (with_reducible refine (span_Back.calls k A c a.f3 b.f1 (wid b) r.1 r.2.1 r.2.2 _ (Kd.C_below H2.out S.out.below) H1.out HT.out).mono ?_); rintro e w7 ⟨v, u, rfl, hR, hR2, hb⟩; replace hR := Kd.R_mono hR (fun _ _ => trivial); replace hR2 := Kd.R_mono hR2 (fun _ _ => trivial); obtain ⟨Ao, co, rfl⟩ := Kd.R_slice hR; obtain ⟨Ai, ci, rfl⟩ := Kd.R_slice hR2; replace S := Aside0.mk (S.out.addR2 hb hR hR2); clear hb hR hR2) | (go_at_call 74; (with_reducible refine (ranged_any a _ (r.1, r.2.2) _ w _ _ _ S.out ?hbs HA.out S.out.now.1.2).mono ?_); (case hbs => simp [k94_E]); rintro e w7 ⟨v, rfl, ⟨Ao, co, rfl⟩, hS⟩; replace S := Aside0.mk hS; clear hS))
     exact bodyPost_ret (results_ct rfl _ _ _ 41 _ (0, 0) _ rfl (S.out.at_ 0 rfl) Tryd.underlying41 rfl (by kernel_rfl)) rfl ⟨_, rfl, S.out.now.2, S.out.below⟩
end Go.Proofs.YtloccjkcmlkifaaDoor
end

section
/- span.Back, of ranges in order. -/
namespace Go.Proofs.YtloccjkcmlkifaaDoor
open Go.RowKit Go.Proofs.YtloccjkcmlkifaaDoor.PAll Go.Proofs.YtloccjkcmlkifaaDoorW.PrintWords

theorem lastLe.mono {acc : List S94} {p q : Int} (h : lastLe acc p) (hq : p ≤ q) : lastLe acc q := fun h0 => Int.le_trans (h h0) hq
theorem add_tot (acc : List S94) (lo hi : Int) (hl : acc.length ≤ 4398046511104) : ∃ r, span_add.f acc lo hi = some r ∧ acc.length ≤ r.length ∧ r.length ≤ acc.length + 1 ∧ (lo < hi → 0 < r.length) := by
 unfold span_add.f
 by_cases h0 : lo ≥ hi
 · rw [if_pos h0]; exact ⟨_, rfl, Nat.le_refl _, by omega, fun h => by omega⟩
 rw [if_neg h0]
 have hl' : acc.length < 8796093022208 := by omega
 by_cases h : 0 < acc.length
 · have w : wrap64 ((acc.length : Int) - 1) = ((acc.length - 1 : Nat) : Int) := by rw [wrap_id (by omega) (by omega)]; omega
   rw [if_pos (show (acc.length : Int) > 0 by omega), w, if_pos (by omega), if_pos (by omega)]
   by_cases c : (rd_T94 acc ((acc.length - 1 : Nat) : Int)).f1 ≥ lo
   · rw [if_pos c]; exact ⟨_, rfl, by simp, by simp, fun _ => by simpa using h⟩
   · rw [if_neg c, if_pos hl']; exact ⟨_, rfl, by simp, by simp, fun _ => by simp⟩
 · rw [if_neg (show ¬ (acc.length : Int) > 0 by omega), if_pos hl']; exact ⟨_, rfl, by simp, by simp, fun _ => by simp⟩
theorem add_jn (acc : List S94) (lo hi : Int) (hq : lastLe acc lo) (h2 : lo < hi) (hl : acc.length ≤ 4398046511104) : span_add.f acc lo hi = some (jn acc ⟨lo, hi⟩) := by
 unfold span_add.f jn
 have hl' : acc.length < 8796093022208 := by omega
 rw [if_neg (show ¬ lo ≥ hi by omega)]
 by_cases h : 0 < acc.length
 · have w : wrap64 ((acc.length : Int) - 1) = ((acc.length - 1 : Nat) : Int) := by rw [wrap_id (by omega) (by omega)]; omega
   have e : rd_T94 acc ((acc.length - 1 : Nat) : Int) = acc.getD (acc.length - 1) z94 := by unfold rd_T94; rw [Int.toNat_natCast]
   have hle := hq h
   rw [if_pos (show (acc.length : Int) > 0 by omega), w, if_pos (by omega), if_pos (by omega), e]
   by_cases c : (acc.getD (acc.length - 1) z94).f1 = lo
   · have m : mx (acc.getD (acc.length - 1) z94).f1 hi = hi := by unfold mx; split <;> omega
     rw [if_pos (show (acc.getD (acc.length - 1) z94).f1 ≥ lo by omega), m, Int.toNat_natCast, if_pos ⟨h, c⟩]
   · rw [if_neg (show ¬ (acc.getD (acc.length - 1) z94).f1 ≥ lo by omega), if_pos hl', if_neg (fun q => c q.2)]
 · rw [if_neg (show ¬ (acc.length : Int) > 0 by omega), if_pos hl', if_neg (fun q => h q.1)]
theorem lastLe_jn (acc : List S94) (r : S94) : lastLe (jn acc r) r.f1 := by
 unfold jn
 by_cases c : 0 < acc.length ∧ (acc.getD (acc.length - 1) z94).f1 = r.f0
 · rw [if_pos c]
   intro _
   rw [List.length_set, List.getD_eq_getElem?_getD, List.getElem?_set_self (by omega)]
   exact Int.le_refl _
 · rw [if_neg c]; exact lastLe_snoc _ _ _ (Int.le_refl _)
def mv (p n : Int) (r : S94) : S94 := if r.f1 ≤ p then r else ⟨r.f0 - n, r.f1 - n⟩
def hits (p n : Int) (l : List S94) : Bool := l.any fun r => decide (p < r.f1 ∧ r.f0 < p + n)
def bkS (p n : Int) (l : List S94) : List S94 := (l.map (mv p n)).foldl jn []
def un (p n x : Int) : Int := if x ≤ p then x else x - n
section
variable (L : List S94) (p n : Int) (hp : 0 ≤ p ∧ p ≤ 1048576) (hn : 1 ≤ n ∧ n ≤ 1048576) (hL : L.length ≤ 1048576)
include hp hn hL
theorem back_loop : ∀ (d k i : Nat) (acc : List S94) (x : Int), L.length = i + d → -1 ≤ x → Nrm x (L.drop i) → hits p n (L.drop i) = false → lastLe acc (un p n x) → acc.length ≤ i → d + 1 ≤ k →
 span_Back.l0 k p n acc [] L (L.length : Int) (i : Int) = some (((L.drop i).map (mv p n)).foldl jn acc, [], 0) := by
 intro d
 induction d with
 | zero =>
  intro k i acc x h1 hx hN hh hla hal hk
  obtain ⟨k, rfl⟩ : ∃ m, k = m + 1 := ⟨k - 1, by omega⟩
  rw [span_Back.l0, if_neg (by omega), List.drop_eq_nil_of_le (by omega)]
  rfl
 | succ d ih =>
  intro k i acc x h1 hx hN hh hla hal hk
  obtain ⟨k, rfl⟩ : ∃ m, k = m + 1 := ⟨k - 1, by omega⟩
  have hi : i < L.length := by omega
  have w : wrap64 ((i : Int) + 1) = ((i + 1 : Nat) : Int) := by clear ih hk hN hla; rw [wrap_id (by omega) (by omega)]; omega
  obtain ⟨r, hr⟩ : ∃ r, r = L.getD i z94 := ⟨_, rfl⟩
  have hd : L.drop i = r :: L.drop (i + 1) := by
   rw [hr, List.drop_eq_getElem_cons hi, List.getD_eq_getElem?_getD, List.getElem?_eq_getElem hi]; rfl
  have e : rd_T94 L (i : Int) = r := by unfold rd_T94; rw [Int.toNat_natCast, hr]
  rw [hd] at hN hh ⊢
  obtain ⟨b1, b2, b3, b4⟩ := hN
  have hh1 : decide (p < r.f1 ∧ r.f0 < p + n) = false ∧ hits p n (L.drop (i + 1)) = false := by
   unfold hits at hh ⊢
   simpa only [List.any_cons, Bool.or_eq_false_iff] using hh
  obtain ⟨hh1, hh2⟩ := hh1
  have hh1 := of_decide_eq_false hh1
  have w0 : wrap64 (p + n) = p + n := wrap_id (by omega) (by omega)
  have q1 : (i : Int) < (L.length : Int) := by omega
  have q2 : (0 : Int) ≤ (i : Int) := by omega
  have ql : acc.length ≤ 4398046511104 := by omega
  have hjl := jn_len acc (mv p n r)
  have g1 : L.length = (i + 1) + d := by omega
  have g2 : d + 1 ≤ k := by omega
  have g3 : (jn acc (mv p n r)).length ≤ i + 1 := by omega
  have g4 : -1 ≤ r.f1 := by omega
  rw [span_Back.l0, if_pos q1, if_pos q2, if_pos q1, e, w0, w]
  by_cases c : r.f1 ≤ p
  · have m1 : mn r.f1 p = r.f1 := by unfold mn; split <;> omega
    have m2 : mx r.f0 p = p := by unfold mx; split <;> omega
    have m3 : mn r.f1 (p + n) = r.f1 := by unfold mn; split <;> omega
    have m4 : mx r.f0 (p + n) = p + n := by unfold mx; split <;> omega
    have v1 : wrap64 (p - p) = 0 := by rw [wrap_id (by omega) (by omega)]; omega
    have v2 : wrap64 (r.f1 - p) = r.f1 - p := wrap_id (by omega) (by omega)
    have v3 : wrap64 (p + n - n) = p := by rw [wrap_id (by omega) (by omega)]; omega
    have v4 : wrap64 (r.f1 - n) = r.f1 - n := wrap_id (by omega) (by omega)
    have hm : mv p n r = r := if_pos c
    have hq : lastLe acc r.f0 := hla.mono (by unfold un; split <;> omega)
    rw [hm] at g3
    rw [m1, m2, m3, m4, v1, v2, v3, v4, add_jn acc r.f0 r.f1 hq b2 ql]
    simp only [Option.bind_some]
    rw [add_no [] _ _ (by omega)]
    simp only [Option.bind_some]
    rw [add_no _ _ _ (by omega)]
    simp only [Option.bind_some]
    rw [ih k (i + 1) (jn acc ⟨r.f0, r.f1⟩) r.f1 g1 g4 b4 hh2 (by
     have : un p n r.f1 = r.f1 := if_pos c
     rw [this]; exact lastLe_jn acc r) g3 g2]
    rw [List.map_cons, List.foldl_cons, hm]
  · have c2 : p + n ≤ r.f0 := by omega
    have m1 : mn r.f1 p = p := by unfold mn; split <;> omega
    have m2 : mx r.f0 p = r.f0 := by unfold mx; split <;> omega
    have m3 : mn r.f1 (p + n) = p + n := by unfold mn; split <;> omega
    have m4 : mx r.f0 (p + n) = r.f0 := by unfold mx; split <;> omega
    have v1 : wrap64 (r.f0 - p) = r.f0 - p := wrap_id (by omega) (by omega)
    have v2 : wrap64 (p + n - p) = n := by rw [wrap_id (by omega) (by omega)]; omega
    have v3 : wrap64 (r.f0 - n) = r.f0 - n := wrap_id (by omega) (by omega)
    have v4 : wrap64 (r.f1 - n) = r.f1 - n := wrap_id (by omega) (by omega)
    have hm : mv p n r = ⟨r.f0 - n, r.f1 - n⟩ := if_neg c
    have hq : lastLe acc (r.f0 - n) := hla.mono (by unfold un; split <;> omega)
    rw [hm] at g3
    rw [m1, m2, m3, m4, v1, v2, v3, v4, add_no acc _ _ (by omega)]
    simp only [Option.bind_some]
    rw [add_no [] _ _ (by omega)]
    simp only [Option.bind_some]
    rw [add_jn acc (r.f0 - n) (r.f1 - n) hq (by omega) ql]
    simp only [Option.bind_some]
    rw [ih k (i + 1) (jn acc ⟨r.f0 - n, r.f1 - n⟩) r.f1 g1 g4 b4 hh2 (by
     have : un p n r.f1 = r.f1 - n := if_neg c
     rw [this]; exact lastLe_jn acc ⟨r.f0 - n, r.f1 - n⟩) g3 g2]
    rw [List.map_cons, List.foldl_cons, hm]
theorem back_hit : ∀ (d k i : Nat) (acc inn : List S94) (x : Int), L.length = i + d → -1 ≤ x → Nrm x (L.drop i) → (0 < inn.length ∨ hits p n (L.drop i) = true) → acc.length ≤ 2 * i → inn.length ≤ i → d + 1 ≤ k →
 ∃ o j, span_Back.l0 k p n acc inn L (L.length : Int) (i : Int) = some (o, j, 0) ∧ 0 < j.length := by
 intro d
 induction d with
 | zero =>
  intro k i acc inn x h1 hx hN hh hal hil hk
  obtain ⟨k, rfl⟩ : ∃ m, k = m + 1 := ⟨k - 1, by omega⟩
  rw [span_Back.l0, if_neg (by omega)]
  refine ⟨_, _, rfl, ?_⟩
  rcases hh with h | h
  · exact h
  · rw [List.drop_eq_nil_of_le (by omega)] at h; exact absurd h (by simp [hits])
 | succ d ih =>
  intro k i acc inn x h1 hx hN hh hal hil hk
  obtain ⟨k, rfl⟩ : ∃ m, k = m + 1 := ⟨k - 1, by omega⟩
  have hi : i < L.length := by omega
  have w : wrap64 ((i : Int) + 1) = ((i + 1 : Nat) : Int) := by clear ih hk hN; rw [wrap_id (by omega) (by omega)]; omega
  obtain ⟨r, hr⟩ : ∃ r, r = L.getD i z94 := ⟨_, rfl⟩
  have hd : L.drop i = r :: L.drop (i + 1) := by
   rw [hr, List.drop_eq_getElem_cons hi, List.getD_eq_getElem?_getD, List.getElem?_eq_getElem hi]; rfl
  have e : rd_T94 L (i : Int) = r := by unfold rd_T94; rw [Int.toNat_natCast, hr]
  rw [hd] at hN hh
  obtain ⟨b1, b2, b3, b4⟩ := hN
  have w0 : wrap64 (p + n) = p + n := wrap_id (by omega) (by omega)
  have q1 : (i : Int) < (L.length : Int) := by omega
  have q2 : (0 : Int) ≤ (i : Int) := by omega
  have bx : p ≤ mx r.f0 p ∧ mx r.f0 p ≤ 1048576 ∧ (mx r.f0 p = r.f0 ∨ mx r.f0 p = p) := by unfold mx; split <;> omega
  have bn : 0 ≤ mn r.f1 (p + n) ∧ mn r.f1 (p + n) ≤ 2097152 ∧ (mn r.f1 (p + n) = r.f1 ∨ mn r.f1 (p + n) = p + n) := by unfold mn; split <;> omega
  have v1 : wrap64 (mx r.f0 p - p) = mx r.f0 p - p := wrap_id (by omega) (by omega)
  have v2 : wrap64 (mn r.f1 (p + n) - p) = mn r.f1 (p + n) - p := wrap_id (by omega) (by omega)
  obtain ⟨t1, a1, l1, l2, _⟩ := add_tot acc r.f0 (mn r.f1 p) (by omega)
  obtain ⟨t2, a2, l3, l4, l5⟩ := add_tot inn (mx r.f0 p - p) (mn r.f1 (p + n) - p) (by omega)
  obtain ⟨t3, a3, l6, l7, _⟩ := add_tot t1 (wrap64 (mx r.f0 (p + n) - n)) (wrap64 (r.f1 - n)) (by omega)
  rw [span_Back.l0, if_pos q1, if_pos q2, if_pos q1, e, w0, v1, v2, a1]
  simp only [Option.bind_some]
  rw [a2]
  simp only [Option.bind_some]
  rw [a3]
  simp only [Option.bind_some]
  rw [w]
  have g0 : 0 < t2.length ∨ hits p n (L.drop (i + 1)) = true := by
   rcases hh with h | h
   · exact .inl (by omega)
   · unfold hits at h ⊢
     simp only [List.any_cons, Bool.or_eq_true] at h
     rcases h with h | h
     · have h' := of_decide_eq_true h
       exact .inl (l5 (by
        have m1 : mx r.f0 p < mn r.f1 (p + n) := by unfold mx mn; split <;> split <;> omega
        omega))
     · exact .inr h
  have g1 : L.length = (i + 1) + d := by omega
  have g2 : -1 ≤ r.f1 := by omega
  have g3 : t3.length ≤ 2 * (i + 1) := by omega
  have g4 : t2.length ≤ i + 1 := by omega
  have g5 : d + 1 ≤ k := by omega
  exact ih k (i + 1) t3 t2 r.f1 g1 g2 b4 g0 g3 g4 g5
end
theorem back_is (l : List S94) (p n : Int) (hl : (rngE l).2 = 0) (hp : 0 ≤ p ∧ p ≤ 1048576) (hn : 1 ≤ n ∧ n ≤ 1048576) (hpn : p + n ≤ 1048576) :
 ∃ k r, span_Back.f k l p n = some r ∧ r.2.2 = 0 ∧ (hits p n l = true → 0 < r.2.1.length) ∧ (hits p n l = false → r.2.1 = [] ∧ r.1 = bkS p n l) := by
 obtain ⟨hlen, hN⟩ := rng_ok hl
 obtain ⟨K, hK⟩ := span_chk l
 dsimp only at hK
 obtain ⟨k, hk⟩ : ∃ k, k = K + l.length + 8 := ⟨_, rfl⟩
 have ho : ∀ x : Int, 0 ≤ x ∧ x ≤ 1048576 → span_outside.f x = some false := fun x hx => by
  unfold span_outside.f
  rw [if_neg (by omega), decide_eq_false (by omega)]
 have hw : wrap64 (p + n) = p + n := wrap_id (by omega) (by omega)
 have hf : span_Back.f (k + 1) l p n = span_Back.l0 k p n [] [] l (l.length : Int) ((0 : Nat) : Int) := by
  unfold span_Back.f
  rw [hK (k + 1) (by omega)]
  simp only [Option.bind_some]
  rw [if_pos hl, ho p hp]
  simp only [Option.bind_some]
  rw [if_neg (by simp), ho n ⟨by omega, hn.2⟩]
  simp only [Option.bind_some]
  rw [if_neg (by simp), hw, decide_eq_false (show ¬ p + n > 1048576 by omega), span_Back.j0, if_neg (by simp)]
  rfl
 cases hh : hits p n l with
 | false =>
  have := back_loop l p n hp hn (by omega) l.length k 0 [] (-1) (by omega) (by omega) (by simpa using hN) (by simpa using hh) (fun h => absurd h (by simp)) (by simp) (by omega)
  exact ⟨k + 1, _, hf.trans this, rfl, fun h => by simp at h, fun _ => ⟨rfl, by rw [List.drop_zero]; rfl⟩⟩
 | true =>
  obtain ⟨o, j, h1, h2⟩ := back_hit l p n hp hn (by omega) l.length k 0 [] [] (-1) (by omega) (by omega) (by simpa using hN) (.inr (by simpa using hh)) (by simp) (by simp) (by omega)
  exact ⟨k + 1, _, hf.trans h1, rfl, fun _ => h2, fun h => by simp at h⟩
def excE (a b : S41) : S41 × Int :=
 if clashB a b = true then (z41, 50) else if a.f0.f1 = 4 then (if aimB a b = true then (z41, 23) else (a, 0)) else if b.f0.f1 ≠ 1 then (a, 0)
 else if a.f0.f1 = 1 then (if a.f1 ≤ b.f1 then (a, 0) else if b.f1 + wid b ≤ a.f1 then moveE a (a.f1 - wid b) else (z41, 23))
 else if hits b.f1 (wid b) a.f3 = true then (z41, 23) else (⟨a.f0, a.f1, a.f2, bkS b.f1 (wid b) a.f3, a.f4, a.f5⟩, 0)
theorem exc_r {a b : S41} (ga : Good a) (gb : Good b) : ∃ r, (a.f0.f1 ≠ 1 → a.f0.f1 ≠ 4 → b.f0.f1 = 1 → ∃ k, span_Back.f k a.f3 b.f1 (wid b) = some r) ∧ excP a b r = excE a b := by
 by_cases h : a.f0.f1 ≠ 1 ∧ a.f0.f1 ≠ 4 ∧ b.f0.f1 = 1
 · obtain ⟨h1, h4, hb⟩ := h
   have hw := gb.wid1 hb
   have hk := ga.kind
   obtain ⟨k, r, e, r0, ht, hf⟩ := back_is a.f3 b.f1 (wid b) (ga.rng (by omega)) ⟨hw.2.2.1, by omega⟩ ⟨hw.1, by omega⟩ hw.2.2.2
   refine ⟨r, fun _ _ _ => ⟨k, e⟩, ?_⟩
   unfold excP excE
   by_cases hc : clashB a b = true
   · rw [if_pos hc, if_pos hc]
   rw [if_neg hc, if_neg hc, if_neg h4, if_neg h4, if_neg (show ¬ b.f0.f1 ≠ 1 from fun q => q hb), if_neg (show ¬ b.f0.f1 ≠ 1 from fun q => q hb), if_neg h1, if_neg h1]
   cases hh : hits b.f1 (wid b) a.f3 with
   | true =>
    rw [if_pos ⟨r0, ht hh⟩, if_pos rfl]
    rfl
   | false =>
    obtain ⟨f1, f2⟩ := hf hh
    rw [if_neg (fun q => by rw [f1] at q; exact absurd q.2 (by simp)), r0, f2, if_neg (by simp)]
    rfl
 · refine ⟨([], [], 0), fun h1 h4 hb => absurd ⟨h1, h4, hb⟩ h, ?_⟩
   unfold excP excE
   by_cases hc : clashB a b = true
   · rw [if_pos hc, if_pos hc]
   rw [if_neg hc, if_neg hc]
   by_cases h4 : a.f0.f1 = 4
   · rw [if_pos h4, if_pos h4]
   · rw [if_neg h4, if_neg h4]
     by_cases hb : b.f0.f1 = 1
     · have h1 : a.f0.f1 = 1 := Classical.byContradiction fun q => h ⟨q, h4, hb⟩
       rw [if_neg (show ¬ b.f0.f1 ≠ 1 from fun q => q hb), if_neg (show ¬ b.f0.f1 ≠ 1 from fun q => q hb), if_pos h1, if_pos h1]
     · rw [if_pos hb, if_pos hb]
theorem excE_prog (a b : S41) (va vb : Value) (w : World) (hG : GW w) (ha : OpC w va a) (hb : OpC w vb b) (ga : Good a) (gb : Good b) :
 Calls Tryd.prog 75 #[.agg (opA a va), .agg (opA b vb)] w (RetOp w (excE a b)) := by
 obtain ⟨r, h, e⟩ := exc_r ga gb
 rw [← e]
 exact exclude_any a b va vb r w hG ha hb ga.fit.len ga.fit.at_ gb.fit.at_ ga.fit.wid gb.fit.wid h
end Go.Proofs.YtloccjkcmlkifaaDoor
end

section
/- xform.transpose, told of whole operations. -/
namespace Go.Proofs.YtloccjkcmlkifaaDoor
open Go.RowKit Go.Proofs.YtloccjkcmlkifaaDoor.PAll Go.Proofs.YtloccjkcmlkifaaDoorW.PrintWords Go.Proofs.YtloccjkcmlkifaaDoorW.PrintLast

def sameAim (a b : S41) : Bool := a.f4.f0 == b.f4.f0 && a.f4.f1 == b.f4.f1
def trClash (a b : S41) : Bool := a.f0.f1 == 4 && ((b.f0.f1 == 4 && sameAim a b && (a.f5 != b.f5)) || aimB a b)
def trP (a b : S41) (rb : List S94 × List S94 × Int) (ra : List S94 × Int) : S41 × S41 × Int :=
 if (excP b a rb).2 ≠ 0 then (z41, z41, (excP b a rb).2)
 else if trClash a b = true then (z41, z41, 50)
 else if b.f0.f1 = 1 ∧ a.f0.f1 = 1 ∧ b.f1 ≤ a.f1 then (if (moveE a (a.f1 + wid b)).2 ≠ 0 then (z41, z41, (moveE a (a.f1 + wid b)).2) else ((excP b a rb).1, (moveE a (a.f1 + wid b)).1, 0))
 else if b.f0.f1 = 1 ∧ (a.f0.f1 = 2 ∨ a.f0.f1 = 3) then (if (incP a b false ra).2 ≠ 0 then (z41, z41, (incP a b false ra).2) else ((excP b a rb).1, (incP a b false ra).1, 0))
 else ((excP b a rb).1, a, 0)

attribute [local go_sem high] eqA35 idx35_0 idx35_1
set_option maxRecDepth 100000 in
set_option maxHeartbeats 8000000 in
theorem transpose_any (a b : S41) (va vb : Value) (rb : List S94 × List S94 × Int) (ra : List S94 × Int) (w : World) (hG : GW w) (ha : OpC w va a) (hb : OpC w vb b) (fa : Fit a) (fb : Fit b)
 (hrb : b.f0.f1 ≠ 1 → b.f0.f1 ≠ 4 → a.f0.f1 = 1 → ∃ k, span_Back.f k b.f3 a.f1 (wid a) = some rb)
 (hra : a.f0.f1 = 2 ∨ a.f0.f1 = 3 → b.f0.f1 = 1 → ∃ k, span_Through.f k a.f3 b.f1 (wid b) = some ra) :
 Calls Tryd.prog 62 #[.agg (opA a va), .agg (opA b vb)] w (RetOp2 w (trP a b rb ra)) := by
 obtain ⟨A, c, rfl, h1, h2⟩ := ha
 obtain ⟨B, d, rfl, h3, h4⟩ := hb
 have S := Aside0.mk (St.init w (F := fun _ => True) (fun _ _ => trivial))
 have HA := Aside0.mk (opC_mk h1 h2); have HB := Aside0.mk (opC_mk h3 h4)
 have HG := Aside0.mk hG
 have HT := Aside0.mk hrb
 have HU := Aside0.mk hra
 clear h1 h2 h3 h4 hG hrb hra
 unfold trP
 by_cases h0 : (excP b a rb).2 = 0
 case neg =>
  rw [if_pos h0]
  have h0' : ((excP b a rb).2 != 0) = true := bne_iff_ne.mpr h0
  clear h0
  go_enter Tryd.func62, Tryd.ntmps62
  go_wp2_with (first | ((with_reducible refine gate_box rfl ?_); refine ev_box S ?_; clear S; intro _ _ S) | ((with_reducible refine gate_new rfl ?_); refine ev_new S 41 zA ?_; clear S; intro _ _ S) | ((with_reducible refine gate_load rfl ?_); first | refine ev_load S ?_ | refine ev_fld S ?_) | ((with_reducible refine gate_st rfl ?_); refine ev_store S ?_; clear S; intro _ S) | (go_at_call 75; (with_reducible refine (exclude_any b a _ _ rb _ (GW.below HG.out S.out.below) (HB.out.below S.out.below) (HA.out.below S.out.below) fb.len fb.at_ fa.at_ fb.wid fa.wid HT.out).mono ?_); rintro e w7 ⟨v, rfl, hR, hb⟩; obtain ⟨Ao, co, rfl⟩ := hR.slice; replace S := Aside0.mk (S.out.addOp hb hR); clear hb hR))
  exact bodyPost_ret (results_cct rfl _ _ _ _ 41 41 zA zA (0, 0) (0, 0) _ _ rfl (S.out.at_ 1 rfl) Tryd.underlying41 rfl (by kernel_rfl) rfl (S.out.at_ 0 rfl) Tryd.underlying41 rfl (by kernel_rfl)) rfl ⟨.slice none 0 0, .slice none 0 0, rfl, opR_nil _ _, opR_nil _ _, S.out.below⟩
 rw [if_neg (fun h => h h0)]
 have h0' : ((excP b a rb).2 != 0) = false := bne_eq_false_iff_eq.mpr h0
 clear h0
 by_cases hcl : trClash a b = true
 · rw [if_pos hcl]
   have hq : (a.f0.f1 == 4) = true ∧ (((b.f0.f1 == 4) = true ∧ (a.f4.f0 == b.f4.f0 && (a.f4.f1 == b.f4.f1)) = true ∧ (a.f5 != b.f5) = true) ∨ ((b.f0.f1 == 4) = false ∧ (a.f4.f0 == b.f0.f0.f0 && (a.f4.f1 == b.f0.f0.f1)) = true) ∨ ((b.f0.f1 == 4) = true ∧ (a.f4.f0 == b.f4.f0 && (a.f4.f1 == b.f4.f1)) = false ∧ (a.f4.f0 == b.f0.f0.f0 && (a.f4.f1 == b.f0.f0.f1)) = true) ∨ ((b.f0.f1 == 4) = true ∧ (a.f4.f0 == b.f4.f0 && (a.f4.f1 == b.f4.f1)) = true ∧ (a.f5 != b.f5) = false ∧ (a.f4.f0 == b.f0.f0.f0 && (a.f4.f1 == b.f0.f0.f1)) = true)) := by
    unfold trClash sameAim aimB at hcl
    revert hcl
    generalize (a.f0.f1 == 4) = x1, (b.f0.f1 == 4) = x2, (a.f4.f0 == b.f4.f0 && (a.f4.f1 == b.f4.f1)) = x3, (a.f5 != b.f5) = x4, (a.f4.f0 == b.f0.f0.f0 && (a.f4.f1 == b.f0.f0.f1)) = x5
    revert x1 x2 x3 x4 x5
    decide
   clear hcl
   simp only [bne_iff_ne, bne_eq_false_iff_eq] at hq
   obtain ⟨q1, ⟨q2, q3, q4⟩ | ⟨q2, q5⟩ | ⟨q2, q3, q5⟩ | ⟨q2, q3, q4, q5⟩⟩ := hq
   all_goals
    go_enter Tryd.func62, Tryd.ntmps62
    go_wp2_with (first | ((with_reducible refine gate_box rfl ?_); refine ev_box S ?_; clear S; intro _ _ S) | ((with_reducible refine gate_new rfl ?_); refine ev_new S 41 zA ?_; clear S; intro _ _ S) | ((with_reducible refine gate_load rfl ?_); first | refine ev_load S ?_ | refine ev_fld S ?_) | ((with_reducible refine gate_st rfl ?_); refine ev_store S ?_; clear S; intro _ S) | (go_at_call 75; (with_reducible refine (exclude_any b a _ _ rb _ (GW.below HG.out S.out.below) (HB.out.below S.out.below) (HA.out.below S.out.below) fb.len fb.at_ fa.at_ fb.wid fa.wid HT.out).mono ?_); rintro e w7 ⟨v, rfl, hR, hb⟩; obtain ⟨Ao, co, rfl⟩ := hR.slice; replace S := Aside0.mk (S.out.addOp hb hR); clear hb hR))
    exact bodyPost_ret (results_cct rfl _ _ _ _ 41 41 zA zA (0, 0) (0, 0) _ _ rfl (S.out.at_ 1 rfl) Tryd.underlying41 rfl (by kernel_rfl) rfl (S.out.at_ 0 rfl) Tryd.underlying41 rfl (by kernel_rfl)) rfl ⟨.slice none 0 0, .slice none 0 0, rfl, opR_nil _ _, opR_nil _ _, S.out.below⟩
 rw [if_neg hcl]
 have hq : (a.f0.f1 == 4) = false ∨ (a.f0.f1 == 4) = true ∧ (a.f4.f0 == b.f0.f0.f0 && (a.f4.f1 == b.f0.f0.f1)) = false ∧ ((b.f0.f1 == 4) = false ∨ ((b.f0.f1 == 4) = true ∧ (a.f4.f0 == b.f4.f0 && (a.f4.f1 == b.f4.f1)) = false) ∨ ((b.f0.f1 == 4) = true ∧ (a.f4.f0 == b.f4.f0 && (a.f4.f1 == b.f4.f1)) = true ∧ (a.f5 != b.f5) = false)) := by
  unfold trClash sameAim aimB at hcl
  revert hcl
  generalize (a.f0.f1 == 4) = x1, (b.f0.f1 == 4) = x2, (a.f4.f0 == b.f4.f0 && (a.f4.f1 == b.f4.f1)) = x3, (a.f5 != b.f5) = x4, (a.f4.f0 == b.f0.f0.f0 && (a.f4.f1 == b.f0.f0.f1)) = x5
  revert x1 x2 x3 x4 x5
  decide
 clear hcl
 by_cases hq1 : (a.f0.f1 == 4) = true
 · have e4 : a.f0.f1 = 4 := beq_iff_eq.mp hq1
   rw [if_neg (by omega), if_neg (by omega)]
   have g1 : (a.f0.f1 == 1) = false := by simp [e4]
   have g2 : (a.f0.f1 == 2) = false := by simp [e4]
   have g3 : (a.f0.f1 == 3) = false := by simp [e4]
   clear e4
   have hq' := hq.resolve_left (by rw [hq1]; simp)
   clear hq hq1
   simp only [bne_eq_false_iff_eq] at hq'
   obtain ⟨q1, q5, q2 | ⟨q2, q3⟩ | ⟨q2, q3, q4⟩⟩ := hq'
   all_goals
    by_cases gb : (b.f0.f1 == 1) = true
    all_goals
     first | (have gb := (Bool.not_eq_true _).mp gb) | skip
     go_enter Tryd.func62, Tryd.ntmps62
     go_wp2_with (first | ((with_reducible refine gate_box rfl ?_); refine ev_box S ?_; clear S; intro _ _ S) | ((with_reducible refine gate_new rfl ?_); refine ev_new S 41 zA ?_; clear S; intro _ _ S) | ((with_reducible refine gate_load rfl ?_); first | refine ev_load S ?_ | refine ev_fld S ?_) | ((with_reducible refine gate_st rfl ?_); refine ev_store S ?_; clear S; intro _ S) | (go_at_call 75; (with_reducible refine (exclude_any b a _ _ rb _ (GW.below HG.out S.out.below) (HB.out.below S.out.below) (HA.out.below S.out.below) fb.len fb.at_ fa.at_ fb.wid fa.wid HT.out).mono ?_); rintro e w7 ⟨v, rfl, hR, hb⟩; obtain ⟨Ao, co, rfl⟩ := hR.slice; replace S := Aside0.mk (S.out.addOp hb hR); clear hb hR) | (go_at_call 64; (with_reducible refine (clone_any a _ _ (HA.out.below S.out.below) fa.len).mono ?_); rintro e w7 ⟨v, rfl, hR, hb⟩; obtain ⟨Ap, cp, rfl⟩ := hR.slice; replace S := Aside0.mk (S.out.addOp hb hR); clear hb hR))
     (refine rg_start (n := 5) (fun W => St w W _ _) [] S.out (fun _ h => h.drew) ?_; clear S; intro _ S; refine ld_ 0 1 S ?_; refine ld_ 1 0 S ?_; refine re_ (rc_ 2 ?_ AllReadyL.nil); intro K hK; refine ks_ 1 S ?_; intro _ S'; refine hK.out _ _ S' ?_; clear S S' hK K; intro S; refine re_ (rc_ 3 ?_ AllReadyL.nil); intro K hK; refine ks_ 0 S ?_; intro _ S'; refine hK.out _ _ S' ?_; clear S S' hK K; intro S; refine pu_ 4 ?_; refine done_ (by kernel_rfl) ?_)
     go_wp2
     exact bodyPost_ret (results_cct rfl _ _ _ _ 41 41 _ _ (0, 0) (0, 0) _ _ rfl (S.at_ 1 rfl) Tryd.underlying41 rfl (by kernel_rfl) rfl (S.at_ 0 rfl) Tryd.underlying41 rfl (by kernel_rfl)) rfl ⟨_, _, rfl, S.now.1.2, S.now.2, S.below⟩
 have q1 : (a.f0.f1 == 4) = false := by simpa using hq1
 clear hq hq1
 by_cases kb : b.f0.f1 = 1
 case neg =>
  rw [if_neg (fun h => kb h.1), if_neg (fun h => kb h.1)]
  have gb : (b.f0.f1 == 1) = false := beq_eq_false_iff_ne.mpr kb
  clear kb
  go_enter Tryd.func62, Tryd.ntmps62
  go_wp2_with (first | ((with_reducible refine gate_box rfl ?_); refine ev_box S ?_; clear S; intro _ _ S) | ((with_reducible refine gate_new rfl ?_); refine ev_new S 41 zA ?_; clear S; intro _ _ S) | ((with_reducible refine gate_load rfl ?_); first | refine ev_load S ?_ | refine ev_fld S ?_) | ((with_reducible refine gate_st rfl ?_); refine ev_store S ?_; clear S; intro _ S) | (go_at_call 75; (with_reducible refine (exclude_any b a _ _ rb _ (GW.below HG.out S.out.below) (HB.out.below S.out.below) (HA.out.below S.out.below) fb.len fb.at_ fa.at_ fb.wid fa.wid HT.out).mono ?_); rintro e w7 ⟨v, rfl, hR, hb⟩; obtain ⟨Ao, co, rfl⟩ := hR.slice; replace S := Aside0.mk (S.out.addOp hb hR); clear hb hR) | (go_at_call 64; (with_reducible refine (clone_any a _ _ (HA.out.below S.out.below) fa.len).mono ?_); rintro e w7 ⟨v, rfl, hR, hb⟩; obtain ⟨Ap, cp, rfl⟩ := hR.slice; replace S := Aside0.mk (S.out.addOp hb hR); clear hb hR))
  (refine rg_start (n := 5) (fun W => St w W _ _) [] S.out (fun _ h => h.drew) ?_; clear S; intro _ S; refine ld_ 0 1 S ?_; refine ld_ 1 0 S ?_; refine re_ (rc_ 2 ?_ AllReadyL.nil); intro K hK; refine ks_ 1 S ?_; intro _ S'; refine hK.out _ _ S' ?_; clear S S' hK K; intro S; refine re_ (rc_ 3 ?_ AllReadyL.nil); intro K hK; refine ks_ 0 S ?_; intro _ S'; refine hK.out _ _ S' ?_; clear S S' hK K; intro S; refine pu_ 4 ?_; refine done_ (by kernel_rfl) ?_)
  go_wp2
  exact bodyPost_ret (results_cct rfl _ _ _ _ 41 41 _ _ (0, 0) (0, 0) _ _ rfl (S.at_ 1 rfl) Tryd.underlying41 rfl (by kernel_rfl) rfl (S.at_ 0 rfl) Tryd.underlying41 rfl (by kernel_rfl)) rfl ⟨_, _, rfl, S.now.1.2, S.now.2, S.below⟩
 have gb : (b.f0.f1 == 1) = true := beq_iff_eq.mpr kb
 by_cases ka : a.f0.f1 = 1
 · have g1 : (a.f0.f1 == 1) = true := beq_iff_eq.mpr ka
   have g2 : (a.f0.f1 == 2) = false := by simp [ka]
   have g3 : (a.f0.f1 == 3) = false := by simp [ka]
   by_cases hle : b.f1 ≤ a.f1
   · rw [if_pos ⟨kb, ka, hle⟩]
     have hle' : decide (b.f1 ≤ a.f1) = true := decide_eq_true hle
     have hwr := show IntKind.i64.wrap (a.f1 + wid b) = a.f1 + wid b from IntWalk.i64_in _ (by have := fa.at_; have := fb.wid; omega)
     have HM := Aside0.mk (show (-4611686018427387904 ≤ a.f1 + wid b ∧ a.f1 + wid b ≤ 4611686018427387904) ∧ (-4611686018427387904 ≤ wid a ∧ wid a ≤ 4611686018427387000) by have := fa.at_; have := fb.wid; have := fa.wid; omega)
     clear hle ka kb
     by_cases hm : (moveE a (a.f1 + wid b)).2 = 0
     · rw [if_neg (fun h => h hm)]
       have hm' : ((moveE a (a.f1 + wid b)).2 != 0) = false := bne_eq_false_iff_eq.mpr hm
       clear hm
       go_enter Tryd.func62, Tryd.ntmps62
       go_wp2_with (first | ((with_reducible refine gate_box rfl ?_); refine ev_box S ?_; clear S; intro _ _ S) | ((with_reducible refine gate_new rfl ?_); refine ev_new S 41 zA ?_; clear S; intro _ _ S) | ((with_reducible refine gate_load rfl ?_); first | refine ev_load S ?_ | refine ev_fld S ?_) | ((with_reducible refine gate_st rfl ?_); refine ev_store S ?_; clear S; intro _ S) | (go_at_call 75; (with_reducible refine (exclude_any b a _ _ rb _ (GW.below HG.out S.out.below) (HB.out.below S.out.below) (HA.out.below S.out.below) fb.len fb.at_ fa.at_ fb.wid fa.wid HT.out).mono ?_); rintro e w7 ⟨v, rfl, hR, hb⟩; obtain ⟨Ao, co, rfl⟩ := hR.slice; replace S := Aside0.mk (S.out.addOp hb hR); clear hb hR) | (go_at_call 64; (with_reducible refine (clone_any a _ _ (HA.out.below S.out.below) fa.len).mono ?_); rintro e w7 ⟨v, rfl, hR, hb⟩; obtain ⟨Ap, cp, rfl⟩ := hR.slice; replace S := Aside0.mk (S.out.addOp hb hR); clear hb hR))
       (refine rg_start (n := 12) (fun W => St w W _ _) [10] S.out (fun _ h => h.drew) ?_; clear S; intro _ S; refine ld_ 0 0 S ?_; refine pu_ 1 ?_; refine fl_ 2 3 S ?_; refine ld_ 3 2 S ?_; refine cl_ 4 #[.agg (opA b (.slice B b.f3.length d))] ?_ Tryd.func53; refine (width_any b _ _ (GW.below HG.out S.below) (HB.out.below S.below)).mono ?_; rintro e w7 ⟨rfl, hb⟩; refine ⟨_, rfl, S.step hb, fun S' => ?_⟩; clear S hb; have S := S'; clear S'; refine nr_ ?_; refine pu_ 5 ?_; refine cl_ 6 #[.agg (opA a (.slice Ap a.f3.length cp)), .int .i64 (a.f1 + wid b)] ?_ Tryd.func72; refine (moved_any a _ (a.f1 + wid b) _ (GW.below HG.out S.below) S.now.2.C HM.out.1 HM.out.2).mono ?_; rintro e w7 ⟨v, rfl, hR, hb⟩; obtain ⟨Ai, ci, rfl⟩ := hR.slice; refine ⟨_, rfl, S.step hb, fun _ => ?_⟩; have S' := S.addOp hb hR; clear S hb hR; have S := S'; clear S'; refine nr_ ?_; refine pu_ 7 ?_; refine pu_ 8 ?_; refine pu_ 9 ?_; refine so_ 10 0 S ?_; clear S; intro _ S; refine pu_ 11 ?_; refine done_ (by kernel_rfl) ?_; have S := Aside0.mk S)
       go_wp2_with (fail)
       (refine rg_start (n := 5) (fun W => St w W _ _) [] S.out (fun _ h => h.drew) ?_; clear S; intro _ S; refine ld_ 0 1 S ?_; refine ld_ 1 0 S ?_; refine re_ (rc_ 2 ?_ AllReadyL.nil); intro K hK; refine ks_ 1 S ?_; intro _ S'; refine hK.out _ _ S' ?_; clear S S' hK K; intro S; refine re_ (rc_ 3 ?_ AllReadyL.nil); intro K hK; refine ks_ 0 S ?_; intro _ S'; refine hK.out _ _ S' ?_; clear S S' hK K; intro S; refine pu_ 4 ?_; refine done_ (by kernel_rfl) ?_)
       go_wp2
       exact bodyPost_ret (results_cct rfl _ _ _ _ 41 41 _ _ (0, 0) (0, 0) _ _ rfl (S.at_ 1 rfl) Tryd.underlying41 rfl (by kernel_rfl) rfl (S.at_ 0 rfl) Tryd.underlying41 rfl (by kernel_rfl)) rfl ⟨_, _, rfl, S.now.1.1.2, S.now.2, S.below⟩
     · rw [if_pos hm]
       have hm' : ((moveE a (a.f1 + wid b)).2 != 0) = true := bne_iff_ne.mpr hm
       clear hm
       go_enter Tryd.func62, Tryd.ntmps62
       go_wp2_with (first | ((with_reducible refine gate_box rfl ?_); refine ev_box S ?_; clear S; intro _ _ S) | ((with_reducible refine gate_new rfl ?_); refine ev_new S 41 zA ?_; clear S; intro _ _ S) | ((with_reducible refine gate_load rfl ?_); first | refine ev_load S ?_ | refine ev_fld S ?_) | ((with_reducible refine gate_st rfl ?_); refine ev_store S ?_; clear S; intro _ S) | (go_at_call 75; (with_reducible refine (exclude_any b a _ _ rb _ (GW.below HG.out S.out.below) (HB.out.below S.out.below) (HA.out.below S.out.below) fb.len fb.at_ fa.at_ fb.wid fa.wid HT.out).mono ?_); rintro e w7 ⟨v, rfl, hR, hb⟩; obtain ⟨Ao, co, rfl⟩ := hR.slice; replace S := Aside0.mk (S.out.addOp hb hR); clear hb hR) | (go_at_call 64; (with_reducible refine (clone_any a _ _ (HA.out.below S.out.below) fa.len).mono ?_); rintro e w7 ⟨v, rfl, hR, hb⟩; obtain ⟨Ap, cp, rfl⟩ := hR.slice; replace S := Aside0.mk (S.out.addOp hb hR); clear hb hR))
       (refine rg_start (n := 12) (fun W => St w W _ _) [10] S.out (fun _ h => h.drew) ?_; clear S; intro _ S; refine ld_ 0 0 S ?_; refine pu_ 1 ?_; refine fl_ 2 3 S ?_; refine ld_ 3 2 S ?_; refine cl_ 4 #[.agg (opA b (.slice B b.f3.length d))] ?_ Tryd.func53; refine (width_any b _ _ (GW.below HG.out S.below) (HB.out.below S.below)).mono ?_; rintro e w7 ⟨rfl, hb⟩; refine ⟨_, rfl, S.step hb, fun S' => ?_⟩; clear S hb; have S := S'; clear S'; refine nr_ ?_; refine pu_ 5 ?_; refine cl_ 6 #[.agg (opA a (.slice Ap a.f3.length cp)), .int .i64 (a.f1 + wid b)] ?_ Tryd.func72; refine (moved_any a _ (a.f1 + wid b) _ (GW.below HG.out S.below) S.now.2.C HM.out.1 HM.out.2).mono ?_; rintro e w7 ⟨v, rfl, hR, hb⟩; obtain ⟨Ai, ci, rfl⟩ := hR.slice; refine ⟨_, rfl, S.step hb, fun _ => ?_⟩; have S' := S.addOp hb hR; clear S hb hR; have S := S'; clear S'; refine nr_ ?_; refine pu_ 7 ?_; refine pu_ 8 ?_; refine pu_ 9 ?_; refine so_ 10 0 S ?_; clear S; intro _ S; refine pu_ 11 ?_; refine done_ (by kernel_rfl) ?_; have S := Aside0.mk S)
       go_wp2_with (((with_reducible refine gate_st rfl ?_); refine ev_store S ?_; clear S; intro _ S))
       exact bodyPost_ret (results_cct rfl _ _ _ _ 41 41 zA zA (0, 0) (0, 0) _ _ rfl (S.out.at_ 1 rfl) Tryd.underlying41 rfl (by kernel_rfl) rfl (S.out.at_ 0 rfl) Tryd.underlying41 rfl (by kernel_rfl)) rfl ⟨.slice none 0 0, .slice none 0 0, rfl, opR_nil _ _, opR_nil _ _, S.out.below⟩
   · rw [if_neg (fun h => hle h.2.2), if_neg (show ¬ (b.f0.f1 = 1 ∧ (a.f0.f1 = 2 ∨ a.f0.f1 = 3)) by omega)]
     have hle' : decide (b.f1 ≤ a.f1) = false := decide_eq_false hle
     clear hle ka kb
     go_enter Tryd.func62, Tryd.ntmps62
     go_wp2_with (first | ((with_reducible refine gate_box rfl ?_); refine ev_box S ?_; clear S; intro _ _ S) | ((with_reducible refine gate_new rfl ?_); refine ev_new S 41 zA ?_; clear S; intro _ _ S) | ((with_reducible refine gate_load rfl ?_); first | refine ev_load S ?_ | refine ev_fld S ?_) | ((with_reducible refine gate_st rfl ?_); refine ev_store S ?_; clear S; intro _ S) | (go_at_call 75; (with_reducible refine (exclude_any b a _ _ rb _ (GW.below HG.out S.out.below) (HB.out.below S.out.below) (HA.out.below S.out.below) fb.len fb.at_ fa.at_ fb.wid fa.wid HT.out).mono ?_); rintro e w7 ⟨v, rfl, hR, hb⟩; obtain ⟨Ao, co, rfl⟩ := hR.slice; replace S := Aside0.mk (S.out.addOp hb hR); clear hb hR) | (go_at_call 64; (with_reducible refine (clone_any a _ _ (HA.out.below S.out.below) fa.len).mono ?_); rintro e w7 ⟨v, rfl, hR, hb⟩; obtain ⟨Ap, cp, rfl⟩ := hR.slice; replace S := Aside0.mk (S.out.addOp hb hR); clear hb hR))
     (refine rg_start (n := 5) (fun W => St w W _ _) [] S.out (fun _ h => h.drew) ?_; clear S; intro _ S; refine ld_ 0 1 S ?_; refine ld_ 1 0 S ?_; refine re_ (rc_ 2 ?_ AllReadyL.nil); intro K hK; refine ks_ 1 S ?_; intro _ S'; refine hK.out _ _ S' ?_; clear S S' hK K; intro S; refine re_ (rc_ 3 ?_ AllReadyL.nil); intro K hK; refine ks_ 0 S ?_; intro _ S'; refine hK.out _ _ S' ?_; clear S S' hK K; intro S; refine pu_ 4 ?_; refine done_ (by kernel_rfl) ?_)
     go_wp2
     exact bodyPost_ret (results_cct rfl _ _ _ _ 41 41 _ _ (0, 0) (0, 0) _ _ rfl (S.at_ 1 rfl) Tryd.underlying41 rfl (by kernel_rfl) rfl (S.at_ 0 rfl) Tryd.underlying41 rfl (by kernel_rfl)) rfl ⟨_, _, rfl, S.now.1.2, S.now.2, S.below⟩
 · have g1 : (a.f0.f1 == 1) = false := beq_eq_false_iff_ne.mpr ka
   rw [if_neg (fun h => ka h.2.1)]
   by_cases kh : a.f0.f1 = 2 ∨ a.f0.f1 = 3
   · rw [if_pos ⟨kb, kh⟩]
     have g23 : (a.f0.f1 == 2) = true ∨ (a.f0.f1 == 2) = false ∧ (a.f0.f1 == 3) = true := by
      rcases kh with h | h
      · exact .inl (by simp [h])
      · exact .inr ⟨by simp [h], by simp [h]⟩
     clear ka kb kh
     by_cases hm : (incP a b false ra).2 = 0
     · rw [if_neg (fun h => h hm)]
       have hm' : ((incP a b false ra).2 != 0) = false := bne_eq_false_iff_eq.mpr hm
       clear hm
       rcases g23 with g2 | ⟨g2, g3⟩
       all_goals
        go_enter Tryd.func62, Tryd.ntmps62
        go_wp2_with (first | ((with_reducible refine gate_box rfl ?_); refine ev_box S ?_; clear S; intro _ _ S) | ((with_reducible refine gate_new rfl ?_); refine ev_new S 41 zA ?_; clear S; intro _ _ S) | ((with_reducible refine gate_load rfl ?_); first | refine ev_load S ?_ | refine ev_fld S ?_) | ((with_reducible refine gate_st rfl ?_); refine ev_store S ?_; clear S; intro _ S) | (go_at_call 75; (with_reducible refine (exclude_any b a _ _ rb _ (GW.below HG.out S.out.below) (HB.out.below S.out.below) (HA.out.below S.out.below) fb.len fb.at_ fa.at_ fb.wid fa.wid HT.out).mono ?_); rintro e w7 ⟨v, rfl, hR, hb⟩; obtain ⟨Ao, co, rfl⟩ := hR.slice; replace S := Aside0.mk (S.out.addOp hb hR); clear hb hR) | (go_at_call 64; (with_reducible refine (clone_any a _ _ (HA.out.below S.out.below) fa.len).mono ?_); rintro e w7 ⟨v, rfl, hR, hb⟩; obtain ⟨Ap, cp, rfl⟩ := hR.slice; replace S := Aside0.mk (S.out.addOp hb hR); clear hb hR) | (go_at_call 56; (with_reducible refine (include_any a b false _ _ ra _ (GW.below HG.out S.out.below) (HA.out.below S.out.below) (HB.out.below S.out.below) fa.len fa.at_ fa.wid fb.wid HU.out).mono ?_); rintro e w7 ⟨v, rfl, hR, hb⟩; obtain ⟨Ai, ci, rfl⟩ := hR.slice; replace S := Aside0.mk (S.out.addOp hb hR); clear hb hR))
        (refine rg_start (n := 5) (fun W => St w W _ _) [] S.out (fun _ h => h.drew) ?_; clear S; intro _ S; refine ld_ 0 1 S ?_; refine ld_ 1 0 S ?_; refine re_ (rc_ 2 ?_ AllReadyL.nil); intro K hK; refine ks_ 1 S ?_; intro _ S'; refine hK.out _ _ S' ?_; clear S S' hK K; intro S; refine re_ (rc_ 3 ?_ AllReadyL.nil); intro K hK; refine ks_ 0 S ?_; intro _ S'; refine hK.out _ _ S' ?_; clear S S' hK K; intro S; refine pu_ 4 ?_; refine done_ (by kernel_rfl) ?_)
        go_wp2
        exact bodyPost_ret (results_cct rfl _ _ _ _ 41 41 _ _ (0, 0) (0, 0) _ _ rfl (S.at_ 1 rfl) Tryd.underlying41 rfl (by kernel_rfl) rfl (S.at_ 0 rfl) Tryd.underlying41 rfl (by kernel_rfl)) rfl ⟨_, _, rfl, S.now.1.1.2, S.now.2, S.below⟩
     · rw [if_pos hm]
       have hm' : ((incP a b false ra).2 != 0) = true := bne_iff_ne.mpr hm
       clear hm
       rcases g23 with g2 | ⟨g2, g3⟩
       all_goals
        go_enter Tryd.func62, Tryd.ntmps62
        go_wp2_with (first | ((with_reducible refine gate_box rfl ?_); refine ev_box S ?_; clear S; intro _ _ S) | ((with_reducible refine gate_new rfl ?_); refine ev_new S 41 zA ?_; clear S; intro _ _ S) | ((with_reducible refine gate_load rfl ?_); first | refine ev_load S ?_ | refine ev_fld S ?_) | ((with_reducible refine gate_st rfl ?_); refine ev_store S ?_; clear S; intro _ S) | (go_at_call 75; (with_reducible refine (exclude_any b a _ _ rb _ (GW.below HG.out S.out.below) (HB.out.below S.out.below) (HA.out.below S.out.below) fb.len fb.at_ fa.at_ fb.wid fa.wid HT.out).mono ?_); rintro e w7 ⟨v, rfl, hR, hb⟩; obtain ⟨Ao, co, rfl⟩ := hR.slice; replace S := Aside0.mk (S.out.addOp hb hR); clear hb hR) | (go_at_call 64; (with_reducible refine (clone_any a _ _ (HA.out.below S.out.below) fa.len).mono ?_); rintro e w7 ⟨v, rfl, hR, hb⟩; obtain ⟨Ap, cp, rfl⟩ := hR.slice; replace S := Aside0.mk (S.out.addOp hb hR); clear hb hR) | (go_at_call 56; (with_reducible refine (include_any a b false _ _ ra _ (GW.below HG.out S.out.below) (HA.out.below S.out.below) (HB.out.below S.out.below) fa.len fa.at_ fa.wid fb.wid HU.out).mono ?_); rintro e w7 ⟨v, rfl, hR, hb⟩; obtain ⟨Ai, ci, rfl⟩ := hR.slice; replace S := Aside0.mk (S.out.addOp hb hR); clear hb hR))
        exact bodyPost_ret (results_cct rfl _ _ _ _ 41 41 zA zA (0, 0) (0, 0) _ _ rfl (S.out.at_ 1 rfl) Tryd.underlying41 rfl (by kernel_rfl) rfl (S.out.at_ 0 rfl) Tryd.underlying41 rfl (by kernel_rfl)) rfl ⟨.slice none 0 0, .slice none 0 0, rfl, opR_nil _ _, opR_nil _ _, S.out.below⟩
   · rw [if_neg (fun h => kh h.2)]
     have g2 : (a.f0.f1 == 2) = false := beq_eq_false_iff_ne.mpr (fun h => kh (.inl h))
     have g3 : (a.f0.f1 == 3) = false := beq_eq_false_iff_ne.mpr (fun h => kh (.inr h))
     clear ka kb kh
     go_enter Tryd.func62, Tryd.ntmps62
     go_wp2_with (first | ((with_reducible refine gate_box rfl ?_); refine ev_box S ?_; clear S; intro _ _ S) | ((with_reducible refine gate_new rfl ?_); refine ev_new S 41 zA ?_; clear S; intro _ _ S) | ((with_reducible refine gate_load rfl ?_); first | refine ev_load S ?_ | refine ev_fld S ?_) | ((with_reducible refine gate_st rfl ?_); refine ev_store S ?_; clear S; intro _ S) | (go_at_call 75; (with_reducible refine (exclude_any b a _ _ rb _ (GW.below HG.out S.out.below) (HB.out.below S.out.below) (HA.out.below S.out.below) fb.len fb.at_ fa.at_ fb.wid fa.wid HT.out).mono ?_); rintro e w7 ⟨v, rfl, hR, hb⟩; obtain ⟨Ao, co, rfl⟩ := hR.slice; replace S := Aside0.mk (S.out.addOp hb hR); clear hb hR) | (go_at_call 64; (with_reducible refine (clone_any a _ _ (HA.out.below S.out.below) fa.len).mono ?_); rintro e w7 ⟨v, rfl, hR, hb⟩; obtain ⟨Ap, cp, rfl⟩ := hR.slice; replace S := Aside0.mk (S.out.addOp hb hR); clear hb hR))
     (refine rg_start (n := 5) (fun W => St w W _ _) [] S.out (fun _ h => h.drew) ?_; clear S; intro _ S; refine ld_ 0 1 S ?_; refine ld_ 1 0 S ?_; refine re_ (rc_ 2 ?_ AllReadyL.nil); intro K hK; refine ks_ 1 S ?_; intro _ S'; refine hK.out _ _ S' ?_; clear S S' hK K; intro S; refine re_ (rc_ 3 ?_ AllReadyL.nil); intro K hK; refine ks_ 0 S ?_; intro _ S'; refine hK.out _ _ S' ?_; clear S S' hK K; intro S; refine pu_ 4 ?_; refine done_ (by kernel_rfl) ?_)
     go_wp2
     exact bodyPost_ret (results_cct rfl _ _ _ _ 41 41 _ _ (0, 0) (0, 0) _ _ rfl (S.at_ 1 rfl) Tryd.underlying41 rfl (by kernel_rfl) rfl (S.at_ 0 rfl) Tryd.underlying41 rfl (by kernel_rfl)) rfl ⟨_, _, rfl, S.now.1.2, S.now.2, S.below⟩
end Go.Proofs.YtloccjkcmlkifaaDoor
end

section
/- Transpose, as both sides have it; the program's. -/
namespace Go.Proofs.YtloccjkcmlkifaaDoor
open Go.RowKit Go.Proofs.YtloccjkcmlkifaaDoor.PAll Go.Proofs.YtloccjkcmlkifaaDoorW.PrintWords

def trE (a b : S41) : S41 × S41 × Int :=
 if (excE b a).2 ≠ 0 then (z41, z41, (excE b a).2)
 else if trClash a b = true then (z41, z41, 50)
 else if b.f0.f1 = 1 ∧ a.f0.f1 = 1 ∧ b.f1 ≤ a.f1 then (if (moveE a (a.f1 + wid b)).2 ≠ 0 then (z41, z41, (moveE a (a.f1 + wid b)).2) else ((excE b a).1, (moveE a (a.f1 + wid b)).1, 0))
 else if b.f0.f1 = 1 ∧ (a.f0.f1 = 2 ∨ a.f0.f1 = 3) then (if (incE a b false).2 ≠ 0 then (z41, z41, (incE a b false).2) else ((excE b a).1, (incE a b false).1, 0))
 else ((excE b a).1, a, 0)
theorem trE_prog (a b : S41) (va vb : Value) (w : World) (hG : GW w) (ha : OpC w va a) (hb : OpC w vb b) (ga : Good a) (gb : Good b) :
 Calls Tryd.prog 62 #[.agg (opA a va), .agg (opA b vb)] w (RetOp2 w (trE a b)) := by
 obtain ⟨rb, h, e⟩ := exc_r gb ga
 have et : trP a b rb (thrE a.f3 b.f1 (wid b)) = trE a b := by
  unfold trP trE
  rw [e]
  rfl
 rw [← et]
 exact transpose_any a b va vb rb _ w hG ha hb ga.fit gb.fit h fun h1 h2 => by
  have hb1 := gb.wid1 h2
  exact through_is a.f3 b.f1 (wid b) (ga.rng h1) ⟨hb1.2.2.1, by omega⟩ ⟨hb1.1, by omega⟩ (last_bound (ga.rng h1))
end Go.Proofs.YtloccjkcmlkifaaDoor
end

section
/- Runs: their own errors, on both sides; an element that is read. -/
namespace Go.Proofs.YtloccjkcmlkifaaDoor
open Go.RowKit Go.Proofs.YtloccjkcmlkifaaDoor.PAll Go.Proofs.YtloccjkcmlkifaaDoorW.PrintWords

def ownsE : List S41 → Int
 | [] => 0
 | o :: t => if ownE o = 0 then ownsE t else ownE o
theorem owns_good : ∀ {l : List S41}, ownsE l = 0 → (∀ o ∈ l, fineOp o) → ∀ o ∈ l, Good o
 | o :: t, h, hf, x, hx => by
  unfold ownsE at h
  by_cases c : ownE o = 0
  · rw [if_pos c] at h
    rcases List.mem_cons.1 hx with rfl | hx
    · exact ⟨c, hf _ (by simp)⟩
    · exact owns_good h (fun y hy => hf y (by simp [hy])) x hx
  · rw [if_neg c] at h; exact absurd h c
theorem owns_loop (l : List S41) (hf : ∀ o ∈ l, fineOp o) (hl : l.length ≤ 1048576) : ∀ (d i : Nat), l.length = i + d → Ev (fun k => xform_owns.l0 k l (l.length : Int) (i : Int)) (ownsE (l.drop i)) := by
 intro d
 induction d with
 | zero =>
  intro i h
  refine ⟨1, fun k hk => ?_⟩
  obtain ⟨k, rfl⟩ : ∃ m, k = m + 1 := ⟨k - 1, by omega⟩
  simp only
  rw [xform_owns.l0, if_neg (by omega), List.drop_eq_nil_of_le (by omega)]
  rfl
 | succ d ih =>
  intro i h
  have hi : i < l.length := by omega
  obtain ⟨K1, h1⟩ := ih (i + 1) (by omega)
  obtain ⟨o, ho⟩ : ∃ o, o = l.getD i z41 := ⟨_, rfl⟩
  have hd : l.drop i = o :: l.drop (i + 1) := by
   rw [ho, List.drop_eq_getElem_cons hi, List.getD_eq_getElem?_getD, List.getElem?_eq_getElem hi]; rfl
  have hm : o ∈ l := by
   rw [ho, List.getD_eq_getElem?_getD, List.getElem?_eq_getElem hi]; exact List.getElem_mem hi
  have hfo := hf o hm
  obtain ⟨K2, h2⟩ := own_is o hfo.1 (by have := hfo.2; omega)
  dsimp only at h1 h2
  have e : rd_T41 l (i : Int) = o := by unfold rd_T41; rw [Int.toNat_natCast, ho]
  have w : wrap64 ((i : Int) + 1) = ((i + 1 : Nat) : Int) := by rw [wrap_id (by omega) (by omega)]; omega
  have q1 : (i : Int) < (l.length : Int) := by omega
  have q2 : (0 : Int) ≤ (i : Int) := by omega
  refine ⟨K1 + K2 + 1, fun k hk => ?_⟩
  obtain ⟨k, rfl⟩ : ∃ m, k = m + 1 := ⟨k - 1, by omega⟩
  simp only
  rw [xform_owns.l0, if_pos q1, if_pos q2, if_pos q1, e, h2 k (by omega)]
  simp only [Option.bind_some]
  rw [hd]
  unfold ownsE
  by_cases c : ownE o = 0
  · rw [if_pos c, if_pos c, w, h1 k (by omega)]
  · rw [if_neg c, if_neg c]
theorem rowns_loop (l : List S41) (hf : ∀ o ∈ l, fineOp o) (hl : l.length ≤ 1048576) : ∀ (d i : Nat), l.length = i + d → Ev (fun k => redraftref05_own.l0 k l (i : Int)) (ownsE (l.drop i)) := by
 intro d
 induction d with
 | zero =>
  intro i h
  refine ⟨1, fun k hk => ?_⟩
  obtain ⟨k, rfl⟩ : ∃ m, k = m + 1 := ⟨k - 1, by omega⟩
  simp only
  rw [redraftref05_own.l0, if_neg (by omega), List.drop_eq_nil_of_le (by omega)]
  rfl
 | succ d ih =>
  intro i h
  have hi : i < l.length := by omega
  obtain ⟨K1, h1⟩ := ih (i + 1) (by omega)
  obtain ⟨o, ho⟩ : ∃ o, o = l.getD i z41 := ⟨_, rfl⟩
  have hd : l.drop i = o :: l.drop (i + 1) := by
   rw [ho, List.drop_eq_getElem_cons hi, List.getD_eq_getElem?_getD, List.getElem?_eq_getElem hi]; rfl
  have hm : o ∈ l := by
   rw [ho, List.getD_eq_getElem?_getD, List.getElem?_eq_getElem hi]; exact List.getElem_mem hi
  have hfo := hf o hm
  obtain ⟨K2, h2⟩ := rown_is o hfo.1 (by have := hfo.2; omega)
  dsimp only at h1 h2
  have e : rd_T41 l (i : Int) = o := by unfold rd_T41; rw [Int.toNat_natCast, ho]
  have w : wrap64 ((i : Int) + 1) = ((i + 1 : Nat) : Int) := by rw [wrap_id (by omega) (by omega)]; omega
  have q1 : (i : Int) < (l.length : Int) := by omega
  have q2 : (0 : Int) ≤ (i : Int) := by omega
  refine ⟨K1 + K2 + 1, fun k hk => ?_⟩
  obtain ⟨k, rfl⟩ : ∃ m, k = m + 1 := ⟨k - 1, by omega⟩
  simp only
  rw [redraftref05_own.l0, if_pos q1, if_pos q2, e, h2 k (by omega)]
  simp only [Option.bind_some]
  rw [hd]
  unfold ownsE
  by_cases c : ownE o = 0
  · rw [if_pos c, if_pos c, w, h1 k (by omega)]
  · rw [if_neg c, if_neg c]
def RunC (w : World) (v : Value) (l : List S41) : Prop := ∃ A c, v = .slice A l.length c ∧ l.length ≤ c ∧ k41.C w A l.length l
theorem RunC.below {w w' : World} {v : Value} {l : List S41} (h : RunC w v l) (hb : Below w.heap.size w w') : RunC w' v l := by
 obtain ⟨A, c, e, h1, h2⟩ := h
 exact ⟨A, c, e, h1, Kd.C_below h2 hb⟩
theorem runC_mk {w : World} {l : List S41} {A : Option Addr} {c : Nat} (h1 : l.length ≤ c) (h2 : k41.C w A l.length l) : RunC w (.slice A l.length c) l := ⟨A, c, rfl, h1, h2⟩
theorem owns_any (l : List S41) (v : Value) (w : World) (hG : GW w) (h : RunC w v l) (hf : ∀ o ∈ l, fineOp o) (hl : l.length ≤ 1048576) : Calls Tryd.prog 55 #[v] w fun e w' => e = .returned (.int .i64 (ownsE l)) ∧ Below w.heap.size w w' := by
 obtain ⟨A, c, rfl, h1, h2⟩ := h
 obtain ⟨K, hK⟩ := owns_loop l hf hl l.length 0 (by omega)
 exact xform_owns.calls K A c l _ w h2 h1 hG (by unfold xform_owns.f; exact hK K (Nat.le_refl _))
theorem rowns_any (l : List S41) (v : Value) (w : World) (h : RunC w v l) (hf : ∀ o ∈ l, fineOp o) (hl : l.length ≤ 1048576) : Calls Tryd.prog 95 #[v] w fun e w' => e = .returned (.int .i64 (ownsE l)) ∧ Below w.heap.size w w' := by
 obtain ⟨A, c, rfl, h1, h2⟩ := h
 obtain ⟨K, hK⟩ := rowns_loop l hf hl l.length 0 (by omega)
 exact redraftref05_own.calls K A c l _ w h2 h1 (by unfold redraftref05_own.f; exact hK K (Nat.le_refl _))
end Go.Proofs.YtloccjkcmlkifaaDoor
end

section
/- xform.Over: an operation carried over a run. -/
namespace Go.Proofs.YtloccjkcmlkifaaDoor
open Go.RowKit Go.Proofs.YtloccjkcmlkifaaDoor.PAll Go.Proofs.YtloccjkcmlkifaaDoorW.PrintWords

section
variable {P : Program} {ops : Array Oper} {rest : List Oper} {o : Oper} {a : Act} {Q : Exit → Act → World → Prop} {W : World}
theorem ev_ext (cs : Array Value) {N : Tmp} {ty : TypeId} {x : Operand} {d : TypeDesc} {ad : Addr} (hc : atL W ad 0 cs.toList)
 (h : wpList P ops Q rest (a.put (some N) (.agg cs)) W)
 (ho : o.op = .load ty x := by rfl) (hx : a.eval x = .pointer (some ad) := by rfl) (hd : o.dst = some N := by rfl)
 (hw : Region.wanted o (yielded ops a.tmps) = true := by first | exact wanted_plain rfl | (refine wanted_on rfl ?_; simp [yielded])) (hu : P.underlying ty = some d := by first | exact Tryd.underlying41 | exact Tryd.underlying100) (hdd : (match d with | .struct _ | .array _ _ => true | _ => false) = true := by rfl) (hi : (P.info? ty).map (·.size) = some cs.size := by kernel_rfl) : wpList P ops Q (o :: rest) a W := by
 have hr := run_load_wide (P := P) W ad ty cs.toList d hc hu hdd (by simpa using hi)
 refine ev_run (v := .agg cs) hw ?_ (by rw [hd]; exact h)
 unfold execOp
 simp only [ho, hx, Instr.loadAt, Instr.sureAddr, Sem.run_bind, Sem.run_pure, Result.andThen_ok, hr]
end

def overF (e : Bool) (s : S41 × Int) (x : S41) : S41 × Int := if s.2 = 0 then incE s.1 x e else s
structure OverAt (err : Int) (o : S41) (e : Bool) (run : List S41) (w : World) (g6 g3 : Nat) (k : Nat) (s : S41 × Int) (A : Option Addr) (c : Nat) (wr : World) : Prop where
 eq : s = (run.take k).foldl (overF e) (o, err)
 st : St w wr [(g6, 41, zA), (g3, 41, opA s.1 (.slice A s.1.f3.length c))] (fun W => True ∧ OpR W w.heap.size (.slice A s.1.f3.length c) s.1)
end Go.Proofs.YtloccjkcmlkifaaDoor
end

section
/- The document's Over answers as the program's. -/
namespace Go.Proofs.YtloccjkcmlkifaaDoor
open Go.RowKit Go.Proofs.YtloccjkcmlkifaaDoor.PAll Go.Proofs.YtloccjkcmlkifaaDoorW.PrintWords Go.Proofs.YtloccjkcmlkifaaDoorW.PrintLast

section
variable {P : Program} {ops : Array Oper} {Q : Exit → Act → World → Prop} {md : Region.Mode} {S : World → Prop} {ds : List Nat} {fuel : Nat} {l : Array Bool} {a a' : Act} {w w0 : World} {oi : Oper} {N : Tmp} {rest : List Oper} {o : Oper} {W : World} {bs : List Bx} {F : World → Prop}
theorem le_ (i : Nat) (cs : Array Value) {ty : TypeId} {x : Operand} {d : TypeDesc} {ad : Addr} (hS : S w) (hcc : ∀ w', S w' → atL w' ad 0 cs.toList)
 (h : wpAnyLast P md ops Q S ds fuel (l.setIfInBounds i true) a' w)
 (hi : ops[i]? = some oi := by rfl) (hN : oi.dst = some N := by rfl) (hc : takeB md ops ds l (l.setIfInBounds i true) i = true := by kernel_rfl)
 (ho : oi.op = .load ty x := by rfl) (hx : a.eval x = .pointer (some ad) := by rfl)
 (hw : Region.wanted oi (yielded ops a.tmps) = true := by first | exact wanted_plain rfl | (refine wanted_on rfl ?_; simp [yielded]))
 (hu : P.underlying ty = some d := by first | exact Tryd.underlying41 | exact Tryd.underlying100) (hdd : (match d with | .struct _ | .array _ _ => true | _ => false) = true := by rfl) (hs : (P.info? ty).map (·.size) = some cs.size := by kernel_rfl)
 (ha : a.put (some N) (.agg cs) = a' := by (simp only [Act.put, List.setIfInBounds_toArray, List.set_cons_zero, List.set_cons_succ]; rfl))
 (hQ : ∀ c a w, Q (.panic c) (a.put oi.dst (.agg cs)) w → Q (.panic c) a w := by exact fun _ _ _ h => h) : wpAnyLast P md ops Q S ds (fuel + 1) l a w :=
 take_ (l.setIfInBounds i true) hi hN hc hQ (.inl ⟨hw, fun w' hS' => by
  have hr := run_load_wide (P := P) w' ad ty cs.toList d (hcc w' hS') hu hdd (by simpa using hs)
  unfold execOp
  simp only [ho, hx, Instr.loadAt, Instr.sureAddr, Sem.run_bind, Sem.run_pure, Result.andThen_ok, hr]⟩) hS ha h
theorem ev_lit (S : Aside0 (St w0 W bs F)) (cs : Array Value) (n : Nat) {ty : TypeId} {xs : Array (Nat × Operand)}
 (h : ∀ g w', Aside0 (St w0 w' ((g, 41, cs) :: bs) F) → wpList P ops Q rest (a.put (some N) (.slice (some ⟨g, 0, none⟩) n n)) w')
 (ho : o.op = .buildSlice ty n xs := by rfl) (hd : o.dst = some N := by rfl) (hw : Region.wanted o (yielded ops a.tmps) = true := by exact wanted_plain rfl)
 (hrun : (execOp a.eval o).run P W = .ok (.value (.slice (some ⟨W.heap.size, 0, none⟩) n n)) (W.alloc (.cells cs 41 (0, 0))) := by first | (go_simp; done) | (go_simp; rfl)) : wpList P ops Q (o :: rest) a W :=
 have _ := ho
 ev_run hw hrun (by rw [hd]; exact h _ _ ⟨S.out.push (below_alloc (Below.refl _ _) _) (blk_new W _) rfl⟩)
end
theorem opA_K {w : World} {v : Value} {o : S41} (h : OpC w v o) : k41.K w o (opA o v).toList := by
 obtain ⟨A, c, rfl, h1, h2⟩ := h
 exact k41_mk w o h1 h2
theorem runC_box2 {w : World} {g : Nat} {v u : Value} {o p : S41} (h : w.heap[g]? = some (.cells (opA o v ++ opA p u) 41 (0, 0))) (ho : OpC w v o) (hp : OpC w u p) : RunC w (.slice (some ⟨g, 0, none⟩) 2 2) [o, p] := by
 refine ⟨some ⟨g, 0, none⟩, 2, rfl, Nat.le_refl _, rfl, by simp, fun _ => ⟨_, rfl, fun j q hj => ?_⟩⟩
 match j, hj with
 | 0, hj =>
  obtain rfl := Option.some.inj hj
  refine ⟨_, rfl, opA_K ho, fun i x hx => ?_⟩
  have hi : i < 9 := (List.getElem?_eq_some_iff.1 hx).1
  rw [add_plain, blk_cell h, ← hx, Nat.zero_mul, Nat.zero_add, Array.getElem?_append_left (by simpa using hi)]
  simp
 | 1, hj =>
  obtain rfl := Option.some.inj hj
  refine ⟨_, rfl, opA_K hp, fun i x hx => ?_⟩
  have e : 1 * k41.sz = 9 := rfl
  rw [add_plain, blk_cell h, ← hx, e, Array.getElem?_append_right (by simp)]
  simp
 | j + 2, hj => simp at hj
theorem gate_lit {P : Program} {ops : Array Oper} {rest : List Oper} {o : Oper} {a : Act} {Q : Exit → Act → World → Prop} {W : World} {t : TypeId} {n : Nat} {xs : Array (Nat × Operand)} (_ho : o.op = .buildSlice t n xs) (h : wpList P ops Q (o :: rest) a W) : wpList P ops Q (o :: rest) a W := h
end Go.Proofs.YtloccjkcmlkifaaDoor
end
