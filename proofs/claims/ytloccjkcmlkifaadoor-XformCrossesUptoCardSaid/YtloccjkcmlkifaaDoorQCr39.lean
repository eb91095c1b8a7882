/- XformCrosses_card, part 39. -/
import Derived.Test.YtloccjkcmlkifaaDoorQCr38
import Derived.Test.YtloccjkcmlkifaaDoorQCr24
import Derived.Test.YtloccjkcmlkifaaDoorQCr29
import Derived.Test.YtloccjkcmlkifaaDoorQCr36
import Derived.Test.YtloccjkcmlkifaaDoorQCr34
import Derived.Test.YtloccjkcmlkifaaDoorQCr26

section
/- The document's include, told of whole operations: it answers as the program's. -/
namespace Go.Proofs.YtloccjkcmlkifaaDoor
open Go.RowKit Go.Proofs.YtloccjkcmlkifaaDoor.PAll Go.Proofs.YtloccjkcmlkifaaDoorW.PrintWords Go.Proofs.YtloccjkcmlkifaaDoorW.PrintLast

theorem context_any (w : World) : Calls Tryd.prog 104 #[] w fun e w' => ∃ v, e = .returned v ∧ (∃ A c, v = .slice A 1 c ∧ 1 ≤ c) ∧ Kd.R k154 154 w' w.heap.size (fun _ => True) v [(⟨0, 0, 2097152⟩ : S154)] ∧ Below w.heap.size w w' :=
 (redraftref05_context.calls [(⟨0, 0, 2097152⟩ : S154)] w rfl).mono fun e w' ⟨v, he, hr, hb⟩ => by
  obtain ⟨A, c, e1, h1, _⟩ := Kd.R_reads hr
  exact ⟨v, he, ⟨A, c, e1, h1⟩, hr, hb⟩
def RowC (w : World) (v : Value) (l : List S154) : Prop := ∃ A c, v = .slice A l.length c ∧ l.length ≤ c ∧ k154.C w A l.length l
theorem rowC_of {w : World} {base : Nat} {v : Value} {l : List S154} (h : Kd.R k154 154 w base (fun _ => True) v l) : RowC w v l := Kd.R_reads h
theorem with_any (row l : List S154) (k : Nat) (vr : Value) (who p n : Int) (w : World) (hr : RowC w vr row) (h : redraftref05_with.f k row who p n = some l) :
 Calls Tryd.prog 103 #[vr, .int .i64 who, .int .i64 p, .int .i64 n] w fun e w' => ∃ v, e = .returned v ∧ Kd.R k154 154 w' w.heap.size (fun _ => True) v l ∧ Below w.heap.size w w' := by
 obtain ⟨A, c, rfl, h1, h2⟩ := hr
 exact redraftref05_with.calls k A c row who p n l w h2 h1 h
theorem place_any (row : List S154) (k : Nat) (vr : Value) (who x r : Int) (w : World) (hr : RowC w vr row) (h : redraftref05_place.f k row who x = some r) :
 Calls Tryd.prog 106 #[vr, .int .i64 who, .int .i64 x] w fun e w' => e = .returned (.int .i64 r) ∧ Below w.heap.size w w' := by
 obtain ⟨A, c, rfl, h1, h2⟩ := hr
 exact redraftref05_place.calls k A c row who x r w h2 h1 h
theorem found_any (row row2 : List S154) (l r : List S94) (q : Int) (k : Nat) (vr vr2 : Value) (A : Option Addr) (c : Nat) (w : World) (hr : RowC w vr row) (hr2 : RowC w vr2 row2) (h1 : l.length ≤ c) (h2 : k94.C w A l.length l) (h : redraftref05_found.f k row row2 l = some (r, q)) :
 Calls Tryd.prog 110 #[vr, vr2, .slice A l.length c] w fun e w' => ∃ v, e = .returned (.tuple #[v, .int .i64 q]) ∧ Kd.R k94 94 w' w.heap.size (fun _ => True) v r ∧ Below w.heap.size w w' := by
 obtain ⟨A1, c1, rfl, g1, g2⟩ := hr
 obtain ⟨A2, c2, rfl, g3, g4⟩ := hr2
 exact redraftref05_found.calls k A1 c1 row A2 c2 row2 A c l r q w g2 g1 g4 g3 h2 h1 h
abbrev ctx0 : List S154 := [(⟨0, 0, 2097152⟩ : S154)]

theorem place_in (k : Nat) (who p n : Int) (hw : who ≠ 0) (h0 : 0 ≤ p) (h1 : p ≤ 1048576) (hn : 1 ≤ n ∧ n ≤ 1048576) : redraftref05_place.f (k + 4) (ctxWith who p n) who 0 = some p := by
 unfold redraftref05_place.f
 rw [show (0 : Int) = ((0 : Nat) : Int) from rfl]
 by_cases h : p > 0
 · have hc : ctxWith who p n = [⟨0, 0, p⟩, ⟨who, 0, n⟩, ⟨0, p, 2097152⟩] := by unfold ctxWith; rw [if_pos h]; rfl
   rw [hc, show k + 4 = (k + 3) + 1 from rfl, place_step (k + 3) _ _ _ _ 0 (by simp) (by simp) ⟨0, 0, p⟩ rfl (by simp; omega), if_neg (fun h => hw h.1.symm)]
   simp only
   rw [show k + 3 = (k + 2) + 1 from rfl, place_step (k + 2) _ _ _ _ 1 (by simp) (by simp) ⟨who, 0, n⟩ rfl (by simp; omega), if_pos ⟨rfl, by simp, by show ((0 : Nat) : Int) < n; omega⟩]
   congr 1
   show ((0 : Nat) : Int) + p - 0 + ((0 : Nat) : Int) - 0 = p
   omega
 · obtain rfl : p = 0 := by omega
   have hc : ctxWith who 0 n = [⟨who, 0, n⟩, ⟨0, 0, 2097152⟩] := rfl
   rw [hc, show k + 4 = (k + 3) + 1 from rfl, place_step (k + 3) _ _ _ _ 0 (by simp) (by simp) ⟨who, 0, n⟩ rfl (by simp; omega), if_pos ⟨rfl, by simp, by show ((0 : Nat) : Int) < n; omega⟩]
   rfl
attribute [local go_sem high] eqA35 idx35_0 idx35_1
set_option maxRecDepth 100000 in
set_option maxHeartbeats 8000000 in
theorem rinclude_any (a b : S41) (e : Bool) (va vb : Value) (r : List S94 × Int) (w : World) (ha : OpC w va a) (hb : OpC w vb b) (fa : Fit a) (fb : Fit b) (na : fineOp a) (nb : fineOp b) (oa : ownE a = 0) (ob : ownE b = 0)
 (e3 : a.f0.f1 = 1 → a.f3 = []) (em : a.f0.f1 = 1 → moveE a a.f1 = (a, 0))
 (hr : a.f0.f1 = 2 ∨ a.f0.f1 = 3 → b.f0.f1 = 1 → ∃ k l q, redraftref05_found.f k ctx0 (ctxWith 2 b.f1 (wid b)) a.f3 = some (l, q) ∧ l.length ≤ 4611686018427387904 ∧ covE a l = rangedE a r) :
 Calls Tryd.prog 96 #[.agg (opA a va), .agg (opA b vb), .bool e] w (RetOp w (incP a b e r)) := by
 obtain ⟨A, c, rfl, h1, h2⟩ := ha
 obtain ⟨B, d, rfl, h3, h4⟩ := hb
 have S := Aside0.mk (St.init w (F := fun _ => True) (fun _ _ => trivial))
 have H1 := Aside0.mk h1; have H2 := Aside0.mk h2
 have HA := Aside0.mk (opC_mk h1 h2); have HB := Aside0.mk (opC_mk h3 h4)
 have HF := Aside0.mk (show fineOp a ∧ fineOp b ∧ ownE b = 0 from ⟨na, nb, ob⟩)
 have ka := own_ok oa
 clear h1 h2 h3 h4
 unfold incP
 by_cases hcl : clashB a b = true
 · rw [if_pos hcl]
   have HC := Aside0.mk hcl
   clear hcl hr e3 em ka
   go_enter Tryd.func96, Tryd.ntmps96
   go_wp2_with (first | ((with_reducible refine gate_box rfl ?_); refine ev_box S ?_; clear S; intro _ _ S) | ((with_reducible refine gate_new rfl ?_); refine ev_new S 41 zA ?_; clear S; intro _ _ S) | ((with_reducible refine gate_load rfl ?_); first | refine ev_load S ?_ | refine ev_fld S ?_) | ((with_reducible refine gate_st rfl ?_); refine ev_store S ?_; clear S; intro _ S) | (go_at_call 108; (with_reducible refine (isC_any a b _ _ HC.out).mono ?_); rintro e w7 ⟨rfl, hb⟩; replace S := Aside0.mk (S.out.step hb); clear hb))
   exact bodyPost_ret (results_ct rfl _ _ _ 41 zA (0, 0) _ rfl (S.out.at_ 0 rfl) Tryd.underlying41 rfl (by kernel_rfl)) rfl ⟨.slice none 0 0, rfl, opR_nil _ _, S.out.below⟩
 rw [if_neg hcl]
 have HC : Aside0 (clashB a b = false) := ⟨by simpa using hcl⟩
 clear hcl
 by_cases hk : b.f0.f1 = 1
 case neg =>
  rw [if_pos hk]
  have hk' : (b.f0.f1 != 1) = true := bne_iff_ne.mpr hk
  clear hk hr e3 em ka
  go_enter Tryd.func96, Tryd.ntmps96
  go_wp2_with (first | ((with_reducible refine gate_box rfl ?_); refine ev_box S ?_; clear S; intro _ _ S) | ((with_reducible refine gate_new rfl ?_); refine ev_new S 41 zA ?_; clear S; intro _ _ S) | ((with_reducible refine gate_load rfl ?_); first | refine ev_load S ?_ | refine ev_fld S ?_) | ((with_reducible refine gate_st rfl ?_); refine ev_store S ?_; clear S; intro _ S) | (go_at_call 108; (with_reducible refine (isC_any a b _ _ HC.out).mono ?_); rintro e w7 ⟨rfl, hb⟩; replace S := Aside0.mk (S.out.step hb); clear hb) | (go_at_call 22; (with_reducible refine (rcopy_any a _ _ (HA.out.below S.out.below) HF.out.1).mono ?_); rintro e w7 ⟨v, rfl, hR, hb⟩; obtain ⟨Ao, co, rfl⟩ := hR.slice; replace S := Aside0.mk (S.out.addOp hb hR); clear hb hR))
  exact bodyPost_ret (results_ct rfl _ _ _ 41 _ (0, 0) _ rfl (S.out.at_ 0 rfl) Tryd.underlying41 rfl (by kernel_rfl)) rfl ⟨_, rfl, S.out.now.2, S.out.below⟩
 rw [if_neg (show ¬ b.f0.f1 ≠ 1 from fun h => h hk)]
 have hk' : (b.f0.f1 != 1) = false := bne_eq_false_iff_eq.mpr hk
 have hbi := own_ins ob nb.1 hk
 have hwb : wid b = (chk b.f2).1 := if_pos hk
 have HW := Aside0.mk (with_ctx 0 2 b.f1 (wid b) hbi.1 hbi.2.1)
 by_cases k1 : a.f0.f1 = 1
 · rw [if_pos k1]
   have k4' : (a.f0.f1 == 4) = false := by simp [k1]
   have k1' : (a.f0.f1 == 1) = true := by simp [k1]
   have hpl := place_ctx 0 2 b.f1 (wid b) a.f1 (by omega) hbi.1 hbi.2.1 ⟨by have := fb.wid; omega, fb.wid.2⟩ fa.at_.1 fa.at_.2
   have hpi := place_in 0 2 b.f1 (wid b) (by omega) hbi.1 hbi.2.1 ⟨by omega, fb.wid.2⟩
   have HM0 : ∀ p : Int, 0 ≤ p → p ≤ 4194304 → Aside0 (ownE a = 0 ∧ a.f3 = [] ∧ (0 ≤ p ∧ p ≤ 4194304) ∧ (0 ≤ wid a ∧ wid a ≤ 1048576)) := fun p h1 h2 => ⟨oa, e3 k1, ⟨h1, h2⟩, fa.wid⟩
   have hem := em k1
   have fat := fa.at_
   have fbw := fb.wid
   clear hr e3 em ka hk k1
   by_cases hlt : b.f1 < a.f1
   · rw [if_pos (.inl hlt)]
     rw [if_neg (show ¬ a.f1 < b.f1 by omega)] at hpl
     have HP := Aside0.mk hpl
     have HM := HM0 (a.f1 + wid b) (by omega) (by omega)
     have q1 : (a.f1 == b.f1) = false := beq_eq_false_iff_ne.mpr (by omega)
     clear hpl hpi HM0 hem fat fbw hlt hbi hwb
     go_enter Tryd.func96, Tryd.ntmps96
     go_wp2_with (first | ((with_reducible refine gate_box rfl ?_); refine ev_box S ?_; clear S; intro _ _ S) | ((with_reducible refine gate_new rfl ?_); refine ev_new S 41 zA ?_; clear S; intro _ _ S) | ((with_reducible refine gate_load rfl ?_); first | refine ev_load S ?_ | refine ev_fld S ?_) | (go_at_call 108; (with_reducible refine (isC_any a b _ _ HC.out).mono ?_); rintro e w7 ⟨rfl, hb⟩; replace S := Aside0.mk (S.out.step hb); clear hb) | (go_at_call 105; (with_reducible refine (rwidth_any b _ _ (HB.out.below S.out.below) HF.out.2.1 HF.out.2.2).mono ?_); rintro e w7 ⟨rfl, hb⟩; replace S := Aside0.mk (S.out.step hb); clear hb))
     (refine rg_start (n := 6) (fun W => St w W _ _) [] S.out (fun _ h => h.drew) ?_; clear S; intro _ S; refine pu_ 1 ?_; refine fl_ 2 1 S ?_; refine pu_ 3 ?_; refine cl_ 0 #[] ?_ Tryd.func104; refine (context_any _).mono ?_; rintro e w7 ⟨v, rfl, ⟨Ar, cr, rfl, _⟩, hR, hb⟩; refine ⟨_, rfl, S.step hb, fun _ => ?_⟩; have S' := S.addR hb hR; clear S hb hR; have S := S'; clear S'; refine nr_ ?_; refine cl_ 4 #[.slice Ar 1 cr, .int .i64 2, .int .i64 b.f1, .int .i64 (wid b)] ?_ Tryd.func103; refine (with_any ctx0 _ _ _ 2 b.f1 (wid b) _ (rowC_of S.now.2) HW.out).mono ?_; rintro e w7 ⟨v, rfl, hR, hb⟩; obtain ⟨Aw, cw, rfl⟩ := Kd.R_slice hR; refine ⟨_, rfl, (S.step hb).weak (fun _ h => h.1), fun _ => ?_⟩; have S' := (S.weak (fun _ h => h.1)).addR hb hR; clear S hb hR; have S := S'; clear S'; refine nr_ ?_; refine pu_ 5 ?_; refine done_ (by kernel_rfl) ?_; have S := Aside0.mk S)
     go_wp2_with (first | ((with_reducible refine gate_load rfl ?_); first | refine ev_load S ?_ | refine ev_fld S ?_) | ((with_reducible refine gate_st rfl ?_); refine ev_store S ?_; clear S; intro _ S) | (go_at_call 106; (with_reducible refine (place_any _ _ _ _ _ _ _ (rowC_of S.out.now.2) HP.out).mono ?_); rintro e w7 ⟨rfl, hb⟩; replace S := Aside0.mk (S.out.step hb); clear hb) | (go_at_call 109; (with_reducible refine (rmoved_any a _ _ _ (HA.out.below S.out.below) HF.out.1 HM.out.1 HM.out.2.1 HM.out.2.2.1 HM.out.2.2.2).mono ?_); rintro e w7 ⟨v, rfl, hR, hb⟩; obtain ⟨Ai, ci, rfl⟩ := hR.slice; replace S := Aside0.mk (S.out.addOp hb hR); clear hb hR))
     exact bodyPost_ret (results_ct rfl _ _ _ 41 _ (0, 0) _ rfl (S.out.at_ 0 rfl) Tryd.underlying41 rfl (by kernel_rfl)) rfl ⟨_, rfl, S.out.now.2, S.out.below⟩
   · by_cases heq : a.f1 = b.f1
     · have q1 : (a.f1 == b.f1) = true := beq_iff_eq.mpr heq
       rw [if_neg (show ¬ a.f1 < b.f1 by omega)] at hpl
       have HP := Aside0.mk hpl
       cases e with
       | true =>
        rw [if_pos (.inr ⟨heq.symm, rfl⟩)]
        have HM := HM0 (a.f1 + wid b) (by omega) (by omega)
        clear hpl hpi HM0 hem fat fbw hlt hbi hwb heq
        go_enter Tryd.func96, Tryd.ntmps96
        go_wp2_with (first | ((with_reducible refine gate_box rfl ?_); refine ev_box S ?_; clear S; intro _ _ S) | ((with_reducible refine gate_new rfl ?_); refine ev_new S 41 zA ?_; clear S; intro _ _ S) | ((with_reducible refine gate_load rfl ?_); first | refine ev_load S ?_ | refine ev_fld S ?_) | (go_at_call 108; (with_reducible refine (isC_any a b _ _ HC.out).mono ?_); rintro e w7 ⟨rfl, hb⟩; replace S := Aside0.mk (S.out.step hb); clear hb) | (go_at_call 105; (with_reducible refine (rwidth_any b _ _ (HB.out.below S.out.below) HF.out.2.1 HF.out.2.2).mono ?_); rintro e w7 ⟨rfl, hb⟩; replace S := Aside0.mk (S.out.step hb); clear hb))
        (refine rg_start (n := 6) (fun W => St w W _ _) [] S.out (fun _ h => h.drew) ?_; clear S; intro _ S; refine pu_ 1 ?_; refine fl_ 2 1 S ?_; refine pu_ 3 ?_; refine cl_ 0 #[] ?_ Tryd.func104; refine (context_any _).mono ?_; rintro e w7 ⟨v, rfl, ⟨Ar, cr, rfl, _⟩, hR, hb⟩; refine ⟨_, rfl, S.step hb, fun _ => ?_⟩; have S' := S.addR hb hR; clear S hb hR; have S := S'; clear S'; refine nr_ ?_; refine cl_ 4 #[.slice Ar 1 cr, .int .i64 2, .int .i64 b.f1, .int .i64 (wid b)] ?_ Tryd.func103; refine (with_any ctx0 _ _ _ 2 b.f1 (wid b) _ (rowC_of S.now.2) HW.out).mono ?_; rintro e w7 ⟨v, rfl, hR, hb⟩; obtain ⟨Aw, cw, rfl⟩ := Kd.R_slice hR; refine ⟨_, rfl, (S.step hb).weak (fun _ h => h.1), fun _ => ?_⟩; have S' := (S.weak (fun _ h => h.1)).addR hb hR; clear S hb hR; have S := S'; clear S'; refine nr_ ?_; refine pu_ 5 ?_; refine done_ (by kernel_rfl) ?_; have S := Aside0.mk S)
        go_wp2_with (first | ((with_reducible refine gate_load rfl ?_); first | refine ev_load S ?_ | refine ev_fld S ?_) | ((with_reducible refine gate_st rfl ?_); refine ev_store S ?_; clear S; intro _ S) | (go_at_call 106; (with_reducible refine (place_any _ _ _ _ _ _ _ (rowC_of S.out.now.2) HP.out).mono ?_); rintro e w7 ⟨rfl, hb⟩; replace S := Aside0.mk (S.out.step hb); clear hb) | (go_at_call 109; (with_reducible refine (rmoved_any a _ _ _ (HA.out.below S.out.below) HF.out.1 HM.out.1 HM.out.2.1 HM.out.2.2.1 HM.out.2.2.2).mono ?_); rintro e w7 ⟨v, rfl, hR, hb⟩; obtain ⟨Ai, ci, rfl⟩ := hR.slice; replace S := Aside0.mk (S.out.addOp hb hR); clear hb hR))
        exact bodyPost_ret (results_ct rfl _ _ _ 41 _ (0, 0) _ rfl (S.out.at_ 0 rfl) Tryd.underlying41 rfl (by kernel_rfl)) rfl ⟨_, rfl, S.out.now.2, S.out.below⟩
       | false =>
        rw [if_neg (show ¬ (b.f1 < a.f1 ∨ b.f1 = a.f1 ∧ false = true) from fun h => h.elim hlt (fun h => by cases h.2))]
        have HM := HM0 b.f1 (by omega) (by omega)
        have HQ := Aside0.mk hpi
        rw [heq] at hem
        rw [← hem]
        clear hpl hpi HM0 hem fat fbw hlt hbi hwb heq
        go_enter Tryd.func96, Tryd.ntmps96
        go_wp2_with (first | ((with_reducible refine gate_box rfl ?_); refine ev_box S ?_; clear S; intro _ _ S) | ((with_reducible refine gate_new rfl ?_); refine ev_new S 41 zA ?_; clear S; intro _ _ S) | ((with_reducible refine gate_load rfl ?_); first | refine ev_load S ?_ | refine ev_fld S ?_) | (go_at_call 108; (with_reducible refine (isC_any a b _ _ HC.out).mono ?_); rintro e w7 ⟨rfl, hb⟩; replace S := Aside0.mk (S.out.step hb); clear hb) | (go_at_call 105; (with_reducible refine (rwidth_any b _ _ (HB.out.below S.out.below) HF.out.2.1 HF.out.2.2).mono ?_); rintro e w7 ⟨rfl, hb⟩; replace S := Aside0.mk (S.out.step hb); clear hb))
        (refine rg_start (n := 6) (fun W => St w W _ _) [] S.out (fun _ h => h.drew) ?_; clear S; intro _ S; refine pu_ 1 ?_; refine fl_ 2 1 S ?_; refine pu_ 3 ?_; refine cl_ 0 #[] ?_ Tryd.func104; refine (context_any _).mono ?_; rintro e w7 ⟨v, rfl, ⟨Ar, cr, rfl, _⟩, hR, hb⟩; refine ⟨_, rfl, S.step hb, fun _ => ?_⟩; have S' := S.addR hb hR; clear S hb hR; have S := S'; clear S'; refine nr_ ?_; refine cl_ 4 #[.slice Ar 1 cr, .int .i64 2, .int .i64 b.f1, .int .i64 (wid b)] ?_ Tryd.func103; refine (with_any ctx0 _ _ _ 2 b.f1 (wid b) _ (rowC_of S.now.2) HW.out).mono ?_; rintro e w7 ⟨v, rfl, hR, hb⟩; obtain ⟨Aw, cw, rfl⟩ := Kd.R_slice hR; refine ⟨_, rfl, (S.step hb).weak (fun _ h => h.1), fun _ => ?_⟩; have S' := (S.weak (fun _ h => h.1)).addR hb hR; clear S hb hR; have S := S'; clear S'; refine nr_ ?_; refine pu_ 5 ?_; refine done_ (by kernel_rfl) ?_; have S := Aside0.mk S)
        go_wp2_with (first | ((with_reducible refine gate_load rfl ?_); first | refine ev_load S ?_ | refine ev_fld S ?_) | ((with_reducible refine gate_st rfl ?_); refine ev_store S ?_; clear S; intro _ S) | (go_at_call 106; (with_reducible refine (place_any _ _ _ 2 0 _ _ (rowC_of S.out.now.2) HQ.out).mono ?_); rintro e w7 ⟨rfl, hb⟩; replace S := Aside0.mk (S.out.step hb); clear hb) | (go_at_call 106; (with_reducible refine (place_any _ _ _ _ _ _ _ (rowC_of S.out.now.2) HP.out).mono ?_); rintro e w7 ⟨rfl, hb⟩; replace S := Aside0.mk (S.out.step hb); clear hb) | (go_at_call 109; (with_reducible refine (rmoved_any a _ _ _ (HA.out.below S.out.below) HF.out.1 HM.out.1 HM.out.2.1 HM.out.2.2.1 HM.out.2.2.2).mono ?_); rintro e w7 ⟨v, rfl, hR, hb⟩; obtain ⟨Ai, ci, rfl⟩ := hR.slice; replace S := Aside0.mk (S.out.addOp hb hR); clear hb hR))
        exact bodyPost_ret (results_ct rfl _ _ _ 41 _ (0, 0) _ rfl (S.out.at_ 0 rfl) Tryd.underlying41 rfl (by kernel_rfl)) rfl ⟨_, rfl, S.out.now.2, S.out.below⟩
     · rw [if_neg (show ¬ (b.f1 < a.f1 ∨ b.f1 = a.f1 ∧ e = true) from fun h => h.elim hlt (fun h => heq h.1.symm)), ← hem]
       have q1 : (a.f1 == b.f1) = false := beq_eq_false_iff_ne.mpr heq
       rw [if_pos (show a.f1 < b.f1 by omega)] at hpl
       have HP := Aside0.mk hpl
       have HM := HM0 a.f1 (by omega) (by omega)
       clear hpl hpi HM0 hem fat fbw hlt hbi hwb heq
       go_enter Tryd.func96, Tryd.ntmps96
       go_wp2_with (first | ((with_reducible refine gate_box rfl ?_); refine ev_box S ?_; clear S; intro _ _ S) | ((with_reducible refine gate_new rfl ?_); refine ev_new S 41 zA ?_; clear S; intro _ _ S) | ((with_reducible refine gate_load rfl ?_); first | refine ev_load S ?_ | refine ev_fld S ?_) | (go_at_call 108; (with_reducible refine (isC_any a b _ _ HC.out).mono ?_); rintro e w7 ⟨rfl, hb⟩; replace S := Aside0.mk (S.out.step hb); clear hb) | (go_at_call 105; (with_reducible refine (rwidth_any b _ _ (HB.out.below S.out.below) HF.out.2.1 HF.out.2.2).mono ?_); rintro e w7 ⟨rfl, hb⟩; replace S := Aside0.mk (S.out.step hb); clear hb))
       (refine rg_start (n := 6) (fun W => St w W _ _) [] S.out (fun _ h => h.drew) ?_; clear S; intro _ S; refine pu_ 1 ?_; refine fl_ 2 1 S ?_; refine pu_ 3 ?_; refine cl_ 0 #[] ?_ Tryd.func104; refine (context_any _).mono ?_; rintro e w7 ⟨v, rfl, ⟨Ar, cr, rfl, _⟩, hR, hb⟩; refine ⟨_, rfl, S.step hb, fun _ => ?_⟩; have S' := S.addR hb hR; clear S hb hR; have S := S'; clear S'; refine nr_ ?_; refine cl_ 4 #[.slice Ar 1 cr, .int .i64 2, .int .i64 b.f1, .int .i64 (wid b)] ?_ Tryd.func103; refine (with_any ctx0 _ _ _ 2 b.f1 (wid b) _ (rowC_of S.now.2) HW.out).mono ?_; rintro e w7 ⟨v, rfl, hR, hb⟩; obtain ⟨Aw, cw, rfl⟩ := Kd.R_slice hR; refine ⟨_, rfl, (S.step hb).weak (fun _ h => h.1), fun _ => ?_⟩; have S' := (S.weak (fun _ h => h.1)).addR hb hR; clear S hb hR; have S := S'; clear S'; refine nr_ ?_; refine pu_ 5 ?_; refine done_ (by kernel_rfl) ?_; have S := Aside0.mk S)
       go_wp2_with (first | ((with_reducible refine gate_load rfl ?_); first | refine ev_load S ?_ | refine ev_fld S ?_) | ((with_reducible refine gate_st rfl ?_); refine ev_store S ?_; clear S; intro _ S) | (go_at_call 106; (with_reducible refine (place_any _ _ _ _ _ _ _ (rowC_of S.out.now.2) HP.out).mono ?_); rintro e w7 ⟨rfl, hb⟩; replace S := Aside0.mk (S.out.step hb); clear hb) | (go_at_call 109; (with_reducible refine (rmoved_any a _ _ _ (HA.out.below S.out.below) HF.out.1 HM.out.1 HM.out.2.1 HM.out.2.2.1 HM.out.2.2.2).mono ?_); rintro e w7 ⟨v, rfl, hR, hb⟩; obtain ⟨Ai, ci, rfl⟩ := hR.slice; replace S := Aside0.mk (S.out.addOp hb hR); clear hb hR))
       exact bodyPost_ret (results_ct rfl _ _ _ 41 _ (0, 0) _ rfl (S.out.at_ 0 rfl) Tryd.underlying41 rfl (by kernel_rfl)) rfl ⟨_, rfl, S.out.now.2, S.out.below⟩
 rw [if_neg k1]
 have k1' : (a.f0.f1 == 1) = false := beq_eq_false_iff_ne.mpr k1
 by_cases kh : a.f0.f1 = 2 ∨ a.f0.f1 = 3
 · rw [if_pos kh]
   obtain ⟨k, lf, qf, hf, hll, hcov⟩ := hr kh hk
   rw [← hcov]
   have k4' : (a.f0.f1 == 4) = false := beq_eq_false_iff_ne.mpr (by omega)
   have HP := Aside0.mk hf
   have HL := Aside0.mk hll
   clear hr e3 em ka kh hf hll hcov hbi hwb hk k1
   go_enter Tryd.func96, Tryd.ntmps96
   go_wp2_with (first | ((with_reducible refine gate_box rfl ?_); refine ev_box S ?_; clear S; intro _ _ S) | ((with_reducible refine gate_new rfl ?_); refine ev_new S 41 zA ?_; clear S; intro _ _ S) | ((with_reducible refine gate_load rfl ?_); first | refine ev_load S ?_ | refine ev_fld S ?_) | (go_at_call 108; (with_reducible refine (isC_any a b _ _ HC.out).mono ?_); rintro e w7 ⟨rfl, hb⟩; replace S := Aside0.mk (S.out.step hb); clear hb) | (go_at_call 105; (with_reducible refine (rwidth_any b _ _ (HB.out.below S.out.below) HF.out.2.1 HF.out.2.2).mono ?_); rintro e w7 ⟨rfl, hb⟩; replace S := Aside0.mk (S.out.step hb); clear hb))
   (refine rg_start (n := 6) (fun W => St w W _ _) [] S.out (fun _ h => h.drew) ?_; clear S; intro _ S; refine pu_ 1 ?_; refine fl_ 2 1 S ?_; refine pu_ 3 ?_; refine cl_ 0 #[] ?_ Tryd.func104; refine (context_any _).mono ?_; rintro e w7 ⟨v, rfl, ⟨Ar, cr, rfl, _⟩, hR, hb⟩; refine ⟨_, rfl, S.step hb, fun _ => ?_⟩; have S' := S.addR hb hR; clear S hb hR; have S := S'; clear S'; refine nr_ ?_; refine cl_ 4 #[.slice Ar 1 cr, .int .i64 2, .int .i64 b.f1, .int .i64 (wid b)] ?_ Tryd.func103; refine (with_any ctx0 _ _ _ 2 b.f1 (wid b) _ (rowC_of S.now.2) HW.out).mono ?_; rintro e w7 ⟨v, rfl, hR, hb⟩; obtain ⟨Aw, cw, rfl⟩ := Kd.R_slice hR; refine ⟨_, rfl, (S.step hb).weak (fun _ h => h.1), fun _ => ?_⟩; have S' := (S.weak (fun _ h => h.1)).addR hb hR; clear S hb hR; have S := S'; clear S'; refine nr_ ?_; refine pu_ 5 ?_; refine done_ (by kernel_rfl) ?_; have S := Aside0.mk S)
   go_wp2_with (((with_reducible refine gate_load rfl ?_); first | refine ev_load S ?_ | refine ev_fld S ?_))
   (refine rg_start (n := 10) (fun W => St w W _ _) [] S.out (fun _ h => h.drew) ?_; clear S; intro _ S; refine pu_ 1 ?_; refine pu_ 2 ?_; refine fl_ 3 2 S ?_; refine cl_ 0 #[] ?_ Tryd.func104; refine (context_any _).mono ?_; rintro e w7 ⟨v, rfl, ⟨Ar, cr, rfl, _⟩, hR, hb⟩; refine ⟨_, rfl, S.step hb, fun _ => ?_⟩; have S' := S.addR hb hR; clear S hb hR; have S := S'; clear S'; refine nr_ ?_; refine cl_ 4 #[.slice Ar 1 cr, .slice Aw (ctxWith 2 b.f1 (wid b)).length cw, .slice A a.f3.length c] ?_ Tryd.func110; refine (found_any ctx0 (ctxWith 2 b.f1 (wid b)) a.f3 lf qf _ _ _ A c _ (rowC_of S.now.2) (rowC_of S.now.1.2) H1.out (Kd.C_below H2.out S.below) HP.out).mono ?_; rintro e w7 ⟨v, rfl, hR, hb⟩; obtain ⟨Af, cf, rfl⟩ := Kd.R_slice hR; refine ⟨_, rfl, (S.step hb).weak (fun _ h => h.1), fun _ => ?_⟩; have S' := S.addR hb hR; clear S hb hR; have S := S'; clear S'; refine nr_ ?_; refine pu_ 5 ?_; refine pu_ 6 ?_; refine pu_ 7 ?_; refine pu_ 8 ?_; refine pu_ 9 ?_; refine done_ (by kernel_rfl) ?_; have S := Aside0.mk S)
   go_wp2_with (first | ((with_reducible refine gate_load rfl ?_); first | refine ev_load S ?_ | refine ev_fld S ?_) | ((with_reducible refine gate_st rfl ?_); refine ev_store S ?_; clear S; intro _ S) | (go_at_call 111; (with_reducible refine (covering_any a _ _ _ w _ _ _ S.out ?hbs HA.out S.out.now.2 HL.out).mono ?_); (case hbs => simp [k94_E]); rintro e w7 ⟨v, rfl, ⟨Ai, ci, rfl⟩, hS⟩; replace S := Aside0.mk hS; clear hS))
   exact bodyPost_ret (results_ct rfl _ _ _ 41 _ (0, 0) _ rfl (S.out.at_ 0 rfl) Tryd.underlying41 rfl (by kernel_rfl)) rfl ⟨_, rfl, S.out.now.2, S.out.below⟩
 · rw [if_neg kh]
   have k4' : (a.f0.f1 == 4) = true := beq_iff_eq.mpr (by omega)
   clear hr e3 em ka kh hbi hwb hk k1
   go_enter Tryd.func96, Tryd.ntmps96
   go_wp2_with (first | ((with_reducible refine gate_box rfl ?_); refine ev_box S ?_; clear S; intro _ _ S) | ((with_reducible refine gate_new rfl ?_); refine ev_new S 41 zA ?_; clear S; intro _ _ S) | ((with_reducible refine gate_load rfl ?_); first | refine ev_load S ?_ | refine ev_fld S ?_) | ((with_reducible refine gate_st rfl ?_); refine ev_store S ?_; clear S; intro _ S) | (go_at_call 108; (with_reducible refine (isC_any a b _ _ HC.out).mono ?_); rintro e w7 ⟨rfl, hb⟩; replace S := Aside0.mk (S.out.step hb); clear hb) | (go_at_call 22; (with_reducible refine (rcopy_any a _ _ (HA.out.below S.out.below) HF.out.1).mono ?_); rintro e w7 ⟨v, rfl, hR, hb⟩; obtain ⟨Ao, co, rfl⟩ := hR.slice; replace S := Aside0.mk (S.out.addOp hb hR); clear hb hR))
   exact bodyPost_ret (results_ct rfl _ _ _ 41 _ (0, 0) _ rfl (S.out.at_ 0 rfl) Tryd.underlying41 rfl (by kernel_rfl)) rfl ⟨_, rfl, S.out.now.2, S.out.below⟩
end Go.Proofs.YtloccjkcmlkifaaDoor
end

section
/- The document finds of ranges behind an insert what span.Through makes of them; an include of what is right is right. -/
namespace Go.Proofs.YtloccjkcmlkifaaDoor
open Go.RowKit Go.Proofs.YtloccjkcmlkifaaDoor.PAll Go.Proofs.YtloccjkcmlkifaaDoorW.PrintWords

theorem found_loop (l : List S94) (p n : Int) (hp : 0 ≤ p ∧ p ≤ 1048576) (hn : 1 ≤ n ∧ n ≤ 1048576) (hL : l.length ≤ 1048576) (R : List S94) (K : Nat) (hR : ∀ k, K ≤ k → redraftref02_Places.f k (thrS p n l) = some R) :
 ∀ (d k i : Nat) (out : List S94) (x : Int), l.length = i + d → -1 ≤ x → Nrm x (l.drop i) → out ++ thrS p n (l.drop i) = thrS p n l → out.length ≤ 2 * i → K + 2 * d + 10 ≤ k →
 redraftref05_found.l1 k ctx0 (ctxWith 2 p n) l out 0 (i : Int) 0 2097152 (i : Int) 0 0 2097152 = some (R, 0) := by
 intro d
 induction d with
 | zero =>
  intro k i out x h1 hx hN ho hol hk
  obtain ⟨k, rfl⟩ : ∃ m, k = m + 3 := ⟨k - 3, by omega⟩
  rw [List.drop_eq_nil_of_le (by omega)] at ho
  have ho' : out = thrS p n l := by simpa [thrS] using ho
  have q1 : ¬ (i : Int) < (l.length : Int) := by omega
  have w : wrap64 (0 + 1) = 1 := by unfold wrap64; omega
  have q2 : ¬ (1 : Int) < ((ctx0).length : Int) := by simp
  rw [show k + 3 = (k + 2) + 1 from rfl, redraftref05_found.l1, if_neg q1, show k + 2 = (k + 1) + 1 from rfl, redraftref05_found.j2, if_neg (by simp), w, redraftref05_found.l0, if_neg q2, ho', hR k (by omega)]
  rfl
 | succ d ih =>
  intro k i out x h1 hx hN ho hol hk
  obtain ⟨k, rfl⟩ : ∃ m, k = m + 2 := ⟨k - 2, by omega⟩
  have hi : i < l.length := by omega
  obtain ⟨r, hr⟩ : ∃ r, r = l.getD i z94 := ⟨_, rfl⟩
  have hd : l.drop i = r :: l.drop (i + 1) := by
   rw [hr, List.drop_eq_getElem_cons hi, List.getD_eq_getElem?_getD, List.getElem?_eq_getElem hi]; rfl
  have e : rd_T94 l (i : Int) = r := by unfold rd_T94; rw [Int.toNat_natCast, hr]
  rw [hd] at hN
  obtain ⟨b1, b2, b3, b4⟩ := hN
  have q1 : (i : Int) < (l.length : Int) := by omega
  have q2 : (0 : Int) ≤ (i : Int) := by omega
  have q3 : out.length + (sp p n ⟨r.f0, r.f1⟩).length < 8796093022208 := by have := sp_len p n ⟨r.f0, r.f1⟩; omega
  have q4 : ¬ r.f1 > 2097152 := by omega
  have q5 : ¬ ((sp p n ⟨r.f0, r.f1⟩).length : Int) = 0 := by
   have : 0 < (sp p n ⟨r.f0, r.f1⟩).length := by
    unfold sp
    split
    · simp
    · split <;> simp
   omega
  have q6 : decide (r.f0 < 2097152) = true := decide_eq_true (by omega)
  have m1 : mx r.f0 0 = r.f0 := by unfold mx; split <;> omega
  have m2 : mn r.f1 2097152 = r.f1 := by unfold mn; split <;> omega
  have hk' : K + 2 * d + 10 ≤ k := by omega
  have hka : 4 ≤ k := by omega
  have g1 : l.length = (i + 1) + d := by omega
  have g2 : -1 ≤ r.f1 := by omega
  have g3 : (out ++ sp p n ⟨r.f0, r.f1⟩).length ≤ 2 * (i + 1) := by have := sp_len p n ⟨r.f0, r.f1⟩; simp; omega
  have am := among_ctx (k - 4) p n r.f0 r.f1 hp hn ⟨by omega, b2, b3⟩
  rw [show k - 4 + 4 = k by omega] at am
  have w1 : wrap64 (wrap64 (0 + r.f0) - 0) = r.f0 := by rw [wrap_id (n := 0 + r.f0) (by omega) (by omega), wrap_id (by omega) (by omega)]; omega
  have w2 : wrap64 (wrap64 (0 + r.f1) - 0) = r.f1 := by rw [wrap_id (n := 0 + r.f1) (by omega) (by omega), wrap_id (by omega) (by omega)]; omega
  have w3 : wrap64 ((i : Int) + 1) = ((i + 1 : Nat) : Int) := by rw [wrap_id (by omega) (by omega)]; omega
  rw [show k + 2 = (k + 1) + 1 from rfl, redraftref05_found.l1, if_pos q1, if_pos q2, e, q6, redraftref05_found.j2, if_pos rfl, if_pos q2, if_pos q1, e, m1, m2, w1, w2, am]
  simp only [Option.bind_some]
  rw [if_neg q5, if_pos q3]
  show (if r.f1 > 2097152 then _ else _) = _
  rw [if_neg q4, w3]
  refine ih k (i + 1) _ r.f1 g1 g2 b4 ?_ g3 hk'
  rw [← ho, hd]
  show _ = out ++ (sp p n r ++ thrS p n (l.drop (i + 1)))
  rw [List.append_assoc]
theorem found_is (l : List S94) (p n : Int) (hp : 0 ≤ p ∧ p ≤ 1048576) (hn : 1 ≤ n ∧ n ≤ 1048576) (hl : (rngE l).2 = 0) : ∃ k, redraftref05_found.f k ctx0 (ctxWith 2 p n) l = some (thrS p n l, 0) := by
 obtain ⟨hlen, hN⟩ := rng_ok hl
 have hg := thrS_nrm p n hn.1 l (-1) hN
 have htl := thr_len p n l
 obtain ⟨K, hK⟩ := places_is (thrS p n l) hg.gap.wk (by omega)
 rw [gap_join _ hg.gap] at hK
 have := found_loop l p n hp hn (by omega) (thrS p n l) K hK l.length (K + 2 * l.length + 10) 0 [] (-1) (by omega) (by omega) (by simpa using hN) (by simp) (by simp) (by omega)
 refine ⟨K + 2 * l.length + 11, ?_⟩
 have w : wrap64 (wrap64 (0 + 2097152) - 0) = 2097152 := by unfold wrap64; omega
 unfold redraftref05_found.f
 rw [show K + 2 * l.length + 11 = (K + 2 * l.length + 10) + 1 from rfl, redraftref05_found.l0, if_pos (by simp), if_pos (by omega)]
 have e : rd_T154 ctx0 0 = ⟨0, 0, 2097152⟩ := rfl
 rw [e]
 simp only
 rw [w]
 exact this

structure Good (o : S41) : Prop where
 own : ownE o = 0
 fine : fineOp o
theorem nrm_last {x : Int} : ∀ {l : List S94}, Nrm x l → 0 < l.length → 0 ≤ x + 1 → 0 ≤ lastHi l ∧ lastHi l ≤ 1048576
 | [r], h, _, hx => ⟨by show 0 ≤ r.f1; have := h.1; have := h.2.1; omega, h.2.2.1⟩
 | r :: s :: t, h, _, hx => nrm_last (l := s :: t) h.2.2.2 (by simp) (by have := h.1; have := h.2.1; omega)
theorem last_bound {l : List S94} (h : (rngE l).2 = 0) : -1048576 ≤ lastHi l ∧ lastHi l ≤ 1048576 := by
 obtain ⟨_, hN⟩ := rng_ok h
 by_cases h0 : 0 < l.length
 · have := nrm_last hN h0 (by omega); omega
 · have e : l = [] := List.eq_nil_of_length_eq_zero (by omega)
   rw [e]
   show -1048576 ≤ z94.f1 ∧ z94.f1 ≤ 1048576
   unfold z94; simp
theorem Good.rng {o : S41} (g : Good o) (h : o.f0.f1 = 2 ∨ o.f0.f1 = 3) : (rngE o.f3).2 = 0 := ((own_ok g.own).2.2.2.2.2.1 h).2.1
theorem Good.extra {o : S41} (g : Good o) : extraB o = false := (own_ok g.own).2.2.2.1
theorem Good.noRanges {o : S41} (g : Good o) (h : o.f0.f1 = 1 ∨ o.f0.f1 = 4) : o.f3 = [] := by
 have he := g.extra
 unfold extraB at he
 have := of_decide_eq_false he
 refine List.eq_nil_of_length_eq_zero (Nat.eq_zero_of_not_pos fun hp => this (.inr (.inl ⟨by omega, by omega, by omega⟩)))
theorem Good.noAt {o : S41} (g : Good o) (h : o.f0.f1 ≠ 1) : o.f1 = 0 := by
 have he := g.extra
 unfold extraB at he
 have := of_decide_eq_false he
 by_cases hz : o.f1 = 0
 · exact hz
 · exact absurd (.inl ⟨h, .inl hz⟩) this
theorem Good.fit {o : S41} (g : Good o) : Fit o := by
 have hb := chk_bound o.f2 g.fine.1
 refine ⟨g.fine.2, ?_, ?_⟩
 · by_cases h : o.f0.f1 = 1
   · have := own_ins g.own g.fine.1 h; omega
   · rw [g.noAt h]; omega
 · unfold wid
   have := g.fine.1
   split <;> omega
theorem Good.wid1 {o : S41} (g : Good o) (h : o.f0.f1 = 1) : 1 ≤ wid o ∧ wid o ≤ 256 ∧ 0 ≤ o.f1 ∧ o.f1 + wid o ≤ 1048576 := by
 have := own_ins g.own g.fine.1 h
 have e : wid o = (chk o.f2).1 := if_pos h
 omega
theorem Good.move0 {o : S41} (g : Good o) (h : o.f0.f1 = 1) : moveE o o.f1 = (o, 0) := by
 have := g.wid1 h
 unfold moveE
 rw [if_neg (by omega)]
 have e := g.noRanges (.inl h)
 obtain ⟨f0, f1, f2, f3, f4, f5⟩ := o
 simp only at e
 rw [e]
def incE (a b : S41) (e : Bool) : S41 × Int := incP a b e (thrE a.f3 b.f1 (wid b))
theorem incE_prog (a b : S41) (e : Bool) (va vb : Value) (w : World) (hG : GW w) (ha : OpC w va a) (hb : OpC w vb b) (ga : Good a) (gb : Good b) :
 Calls Tryd.prog 56 #[.agg (opA a va), .agg (opA b vb), .bool e] w (RetOp w (incE a b e)) :=
 include_any a b e va vb _ w hG ha hb ga.fit.len ga.fit.at_ ga.fit.wid gb.fit.wid fun h1 h2 => by
  have hb1 := gb.wid1 h2
  exact through_is a.f3 b.f1 (wid b) (ga.rng h1) ⟨hb1.2.2.1, by omega⟩ ⟨hb1.1, by omega⟩ (last_bound (ga.rng h1))
theorem incE_ref (a b : S41) (e : Bool) (va vb : Value) (w : World) (ha : OpC w va a) (hb : OpC w vb b) (ga : Good a) (gb : Good b) :
 Calls Tryd.prog 96 #[.agg (opA a va), .agg (opA b vb), .bool e] w (RetOp w (incE a b e)) :=
 rinclude_any a b e va vb _ w ha hb ga.fit gb.fit ga.fine gb.fine ga.own gb.own (fun h => ga.noRanges (.inl h)) ga.move0 fun h1 h2 => by
  have hb1 := gb.wid1 h2
  obtain ⟨k, hk⟩ := found_is a.f3 b.f1 (wid b) ⟨hb1.2.2.1, by omega⟩ ⟨hb1.1, by omega⟩ (ga.rng h1)
  have := thr_len b.f1 (wid b) a.f3
  have := ga.fine.2
  exact ⟨k, _, _, hk, by omega, cov_thr a b.f1 (wid b) (last_bound (ga.rng h1)).2⟩
end Go.Proofs.YtloccjkcmlkifaaDoor
end

section
/- What is made of right operations is right. -/
namespace Go.Proofs.YtloccjkcmlkifaaDoor
open Go.RowKit Go.Proofs.YtloccjkcmlkifaaDoor.PAll Go.Proofs.YtloccjkcmlkifaaDoorW.PrintWords

theorem own_mk_ins {o : S41} (k : o.f0.f1 = 1) (hb : ¬ badID o) (he : extraB o = false) (h1 : (chk o.f2).2.2 = 0) (h2 : 1 ≤ (chk o.f2).1 ∧ (chk o.f2).1 ≤ 256) (h3 : 0 ≤ o.f1 ∧ o.f1 + (chk o.f2).1 ≤ 1048576) : ownE o = 0 := by
 have ht : totOf o = o.f1 := by unfold totOf; rw [if_pos ⟨k, by omega, by omega⟩]
 unfold ownE checkE
 rw [ht, if_neg (show ¬ (o.f1 < 0 ∨ 1048576 < o.f1) by omega), if_neg (show ¬ (o.f0.f1 < 1 ∨ 4 < o.f0.f1) by omega), if_neg hb, if_neg (show ¬ extraB o = true by rw [he]; simp), if_pos k]
 unfold insE
 rw [if_pos h1, if_neg (show ¬ (chk o.f2).1 = 0 by omega), if_neg (show ¬ 256 < (chk o.f2).1 by omega), if_neg (show ¬ (o.f1 < 0 ∨ o.f1 < o.f1) by omega), if_neg (show ¬ 1048576 < o.f1 + (chk o.f2).1 by omega)]
theorem own_mk_cov {o : S41} (k : o.f0.f1 = 2 ∨ o.f0.f1 = 3) (hb : ¬ badID o) (he : extraB o = false) (h0 : 0 < o.f3.length) (h1 : (rngE o.f3).2 = 0) (h2 : lastHi o.f3 ≤ 1048576) : ownE o = 0 := by
 have ht : totOf o = 1048576 := by unfold totOf; rw [if_neg (show ¬ (o.f0.f1 = 1 ∧ 0 ≤ o.f1 ∧ o.f1 ≤ 1048576) by omega)]
 unfold ownE checkE
 rw [ht, if_neg (by omega), if_neg (show ¬ (o.f0.f1 < 1 ∨ 4 < o.f0.f1) by omega), if_neg hb, if_neg (show ¬ extraB o = true by rw [he]; simp), if_neg (show ¬ o.f0.f1 = 1 by omega), if_neg (show ¬ o.f0.f1 = 4 by omega)]
 unfold rgsE
 rw [if_neg (by omega), if_pos h1, if_neg (by omega)]
theorem good_move {a : S41} (g : Good a) (k : a.f0.f1 = 1) {p : Int} (hp : 0 ≤ p) (h : (moveE a p).2 = 0) : Good (moveE a p).1 := by
 have hw := g.wid1 k
 have e : wid a = (chk a.f2).1 := if_pos k
 have ho := own_ok g.own
 have hi := own_ins g.own g.fine.1 k
 unfold moveE at h ⊢
 by_cases c : 1048576 < p + wid a
 · rw [if_pos c] at h; exact absurd h (by simp)
 · rw [if_neg c]
   refine ⟨own_mk_ins k ho.2.2.1 ?_ hi.2.2.1 ⟨hi.2.2.2.1, hi.2.2.2.2.1⟩ ⟨hp, by show p + (chk a.f2).1 ≤ 1048576; omega⟩, g.fine.1, by simp⟩
   have := g.extra
   unfold extraB at this ⊢
   have hq := of_decide_eq_false this
   refine decide_eq_false fun h => ?_
   rcases h with h | h | h
   · exact h.1 k
   · exact absurd rfl h.2.2
   · exact hq (.inr (.inr h))
theorem good_ranged {a : S41} (g : Good a) (k : a.f0.f1 = 2 ∨ a.f0.f1 = 3) {l : List S94} (h0 : 0 < l.length) (hl : l.length ≤ 32768) (hn : Nrm (-1) l) : Good ⟨a.f0, a.f1, a.f2, l, a.f4, a.f5⟩ := by
 have ho := own_ok g.own
 have hr := ok_rng hl hn
 refine ⟨own_mk_cov k ho.2.2.1 ?_ h0 (by rw [hr]) (last_bound (by rw [hr])).2, g.fine.1, by show l.length ≤ 1048576; omega⟩
 have := g.extra
 unfold extraB at this ⊢
 have hq := of_decide_eq_false this
 refine decide_eq_false fun h => ?_
 rcases h with h | h | h
 · exact hq (.inl h)
 · have h1 : a.f0.f1 ≠ 2 := h.1
   have h2 : a.f0.f1 ≠ 3 := h.2.1
   omega
 · exact hq (.inr (.inr h))
theorem inc_good {a b : S41} {e : Bool} (ga : Good a) (gb : Good b) (h : (incE a b e).2 = 0) : Good (incE a b e).1 := by
 unfold incE incP at h ⊢
 by_cases c1 : clashB a b = true
 · rw [if_pos c1] at h; exact absurd h (by simp)
 rw [if_neg c1] at h ⊢
 by_cases c2 : b.f0.f1 = 1
 case neg => rw [if_pos c2]; exact ga
 rw [if_neg (fun q => q c2)] at h ⊢
 have hb := gb.wid1 c2
 by_cases c3 : a.f0.f1 = 1
 · rw [if_pos c3] at h ⊢
   have ha := ga.wid1 c3
   by_cases c4 : b.f1 < a.f1 ∨ b.f1 = a.f1 ∧ e = true
   · rw [if_pos c4] at h ⊢
     exact good_move ga c3 (by omega) h
   · rw [if_neg c4]; exact ga
 · rw [if_neg c3] at h ⊢
   by_cases c4 : a.f0.f1 = 2 ∨ a.f0.f1 = 3
   case neg => rw [if_neg c4]; exact ga
   rw [if_pos c4] at h ⊢
   have hrg := ga.rng c4
   obtain ⟨hlen, hN⟩ := rng_ok hrg
   have hl0 : 0 < a.f3.length := Nat.pos_of_ne_zero ((own_ok ga.own).2.2.2.2.2.1 c4).1
   have hlb := last_bound hrg
   unfold rangedE thrE at h ⊢
   by_cases c5 : 0 < a.f3.length ∧ b.f1 < lastHi a.f3 ∧ 1048576 < lastHi a.f3 + wid b
   · rw [if_pos c5] at h; exact absurd h (by simp)
   rw [if_neg c5] at h ⊢
   unfold bnd at h ⊢
   by_cases c6 : 32768 < (thrS b.f1 (wid b) a.f3).length
   · rw [if_pos c6] at h; exact absurd h (by simp)
   rw [if_neg c6] at h ⊢
   rw [if_pos rfl]
   have hB := thrS_nrm b.f1 (wid b) hb.1 a.f3 (-1) hN
   have hlast : lastHi (thrS b.f1 (wid b) a.f3) ≤ 1048576 := by
    rw [thr_last _ _ hl0]
    unfold sh
    split
    · omega
    · have := fun q => c5 ⟨hl0, by omega, q⟩
      omega
   refine good_ranged ga c4 (thrS_ne _ _ hl0) (by show (thrS b.f1 (wid b) a.f3).length ≤ 32768; omega) ?_
   have hsh : sh b.f1 (wid b) (-1) = -1 := by unfold sh; rw [if_pos (by omega)]
   rw [hsh] at hB
   exact hB.nrm fun r hr => by have := hB.le_last r hr; omega
end Go.Proofs.YtloccjkcmlkifaaDoor
end

section
/- Runs: their own errors, on both sides; an element that is read. -/
namespace Go.Proofs.YtloccjkcmlkifaaDoor
open Go.RowKit Go.Proofs.YtloccjkcmlkifaaDoor.PAll Go.Proofs.YtloccjkcmlkifaaDoorW.PrintWords

def ownsE : List S41 → Int
 | [] => 0
 | o :: t => if ownE o = 0 then ownsE t else ownE o
theorem owns_good : ∀ {l : List S41}, ownsE l = 0 → (∀ o ∈ l, fineOp o) → ∀ o ∈ l, Good o
 | o :: t, h, hf, x, hx => by
  unfold ownsE at h
  by_cases c : ownE o = 0
  · rw [if_pos c] at h
    rcases List.mem_cons.1 hx with rfl | hx
    · exact ⟨c, hf _ (by simp)⟩
    · exact owns_good h (fun y hy => hf y (by simp [hy])) x hx
  · rw [if_neg c] at h; exact absurd h c
theorem owns_loop (l : List S41) (hf : ∀ o ∈ l, fineOp o) (hl : l.length ≤ 1048576) : ∀ (d i : Nat), l.length = i + d → Ev (fun k => xform_owns.l0 k l (l.length : Int) (i : Int)) (ownsE (l.drop i)) := by
 intro d
 induction d with
 | zero =>
  intro i h
  refine ⟨1, fun k hk => ?_⟩
  obtain ⟨k, rfl⟩ : ∃ m, k = m + 1 := ⟨k - 1, by omega⟩
  simp only
  rw [xform_owns.l0, if_neg (by omega), List.drop_eq_nil_of_le (by omega)]
  rfl
 | succ d ih =>
  intro i h
  have hi : i < l.length := by omega
  obtain ⟨K1, h1⟩ := ih (i + 1) (by omega)
  obtain ⟨o, ho⟩ : ∃ o, o = l.getD i z41 := ⟨_, rfl⟩
  have hd : l.drop i = o :: l.drop (i + 1) := by
   rw [ho, List.drop_eq_getElem_cons hi, List.getD_eq_getElem?_getD, List.getElem?_eq_getElem hi]; rfl
  have hm : o ∈ l := by
   rw [ho, List.getD_eq_getElem?_getD, List.getElem?_eq_getElem hi]; exact List.getElem_mem hi
  have hfo := hf o hm
  obtain ⟨K2, h2⟩ := own_is o hfo.1 (by have := hfo.2; omega)
  dsimp only at h1 h2
  have e : rd_T41 l (i : Int) = o := by unfold rd_T41; rw [Int.toNat_natCast, ho]
  have w : wrap64 ((i : Int) + 1) = ((i + 1 : Nat) : Int) := by rw [wrap_id (by omega) (by omega)]; omega
  have q1 : (i : Int) < (l.length : Int) := by omega
  have q2 : (0 : Int) ≤ (i : Int) := by omega
  refine ⟨K1 + K2 + 1, fun k hk => ?_⟩
  obtain ⟨k, rfl⟩ : ∃ m, k = m + 1 := ⟨k - 1, by omega⟩
  simp only
  rw [xform_owns.l0, if_pos q1, if_pos q2, if_pos q1, e, h2 k (by omega)]
  simp only [Option.bind_some]
  rw [hd]
  unfold ownsE
  by_cases c : ownE o = 0
  · rw [if_pos c, if_pos c, w, h1 k (by omega)]
  · rw [if_neg c, if_neg c]
theorem rowns_loop (l : List S41) (hf : ∀ o ∈ l, fineOp o) (hl : l.length ≤ 1048576) : ∀ (d i : Nat), l.length = i + d → Ev (fun k => redraftref05_own.l0 k l (i : Int)) (ownsE (l.drop i)) := by
 intro d
 induction d with
 | zero =>
  intro i h
  refine ⟨1, fun k hk => ?_⟩
  obtain ⟨k, rfl⟩ : ∃ m, k = m + 1 := ⟨k - 1, by omega⟩
  simp only
  rw [redraftref05_own.l0, if_neg (by omega), List.drop_eq_nil_of_le (by omega)]
  rfl
 | succ d ih =>
  intro i h
  have hi : i < l.length := by omega
  obtain ⟨K1, h1⟩ := ih (i + 1) (by omega)
  obtain ⟨o, ho⟩ : ∃ o, o = l.getD i z41 := ⟨_, rfl⟩
  have hd : l.drop i = o :: l.drop (i + 1) := by
   rw [ho, List.drop_eq_getElem_cons hi, List.getD_eq_getElem?_getD, List.getElem?_eq_getElem hi]; rfl
  have hm : o ∈ l := by
   rw [ho, List.getD_eq_getElem?_getD, List.getElem?_eq_getElem hi]; exact List.getElem_mem hi
  have hfo := hf o hm
  obtain ⟨K2, h2⟩ := rown_is o hfo.1 (by have := hfo.2; omega)
  dsimp only at h1 h2
  have e : rd_T41 l (i : Int) = o := by unfold rd_T41; rw [Int.toNat_natCast, ho]
  have w : wrap64 ((i : Int) + 1) = ((i + 1 : Nat) : Int) := by rw [wrap_id (by omega) (by omega)]; omega
  have q1 : (i : Int) < (l.length : Int) := by omega
  have q2 : (0 : Int) ≤ (i : Int) := by omega
  refine ⟨K1 + K2 + 1, fun k hk => ?_⟩
  obtain ⟨k, rfl⟩ : ∃ m, k = m + 1 := ⟨k - 1, by omega⟩
  simp only
  rw [redraftref05_own.l0, if_pos q1, if_pos q2, e, h2 k (by omega)]
  simp only [Option.bind_some]
  rw [hd]
  unfold ownsE
  by_cases c : ownE o = 0
  · rw [if_pos c, if_pos c, w, h1 k (by omega)]
  · rw [if_neg c, if_neg c]
def RunC (w : World) (v : Value) (l : List S41) : Prop := ∃ A c, v = .slice A l.length c ∧ l.length ≤ c ∧ k41.C w A l.length l
theorem RunC.below {w w' : World} {v : Value} {l : List S41} (h : RunC w v l) (hb : Below w.heap.size w w') : RunC w' v l := by
 obtain ⟨A, c, e, h1, h2⟩ := h
 exact ⟨A, c, e, h1, Kd.C_below h2 hb⟩
theorem runC_mk {w : World} {l : List S41} {A : Option Addr} {c : Nat} (h1 : l.length ≤ c) (h2 : k41.C w A l.length l) : RunC w (.slice A l.length c) l := ⟨A, c, rfl, h1, h2⟩
theorem owns_any (l : List S41) (v : Value) (w : World) (hG : GW w) (h : RunC w v l) (hf : ∀ o ∈ l, fineOp o) (hl : l.length ≤ 1048576) : Calls Tryd.prog 55 #[v] w fun e w' => e = .returned (.int .i64 (ownsE l)) ∧ Below w.heap.size w w' := by
 obtain ⟨A, c, rfl, h1, h2⟩ := h
 obtain ⟨K, hK⟩ := owns_loop l hf hl l.length 0 (by omega)
 exact xform_owns.calls K A c l _ w h2 h1 hG (by unfold xform_owns.f; exact hK K (Nat.le_refl _))
theorem rowns_any (l : List S41) (v : Value) (w : World) (h : RunC w v l) (hf : ∀ o ∈ l, fineOp o) (hl : l.length ≤ 1048576) : Calls Tryd.prog 95 #[v] w fun e w' => e = .returned (.int .i64 (ownsE l)) ∧ Below w.heap.size w w' := by
 obtain ⟨A, c, rfl, h1, h2⟩ := h
 obtain ⟨K, hK⟩ := rowns_loop l hf hl l.length 0 (by omega)
 exact redraftref05_own.calls K A c l _ w h2 h1 (by unfold redraftref05_own.f; exact hK K (Nat.le_refl _))
theorem elem_C {w : World} {A : Option Addr} {l : List S41} (h : k41.C w A l.length l) (i : Nat) (hi : i < l.length) :
 ∃ ad A5 c5, A = some ad ∧ (∀ W, Below w.heap.size w W → atL W (ad.add (i * 9)) 0 (opA (l.getD i z41) (.slice A5 (l.getD i z41).f3.length c5)).toList) ∧ OpC w (.slice A5 (l.getD i z41).f3.length c5) (l.getD i z41) := by
 obtain ⟨ad, c, e, _, hK, hc⟩ := Kd.C_get h z41 (i : Int) (by omega) (by omega)
 rw [Int.toNat_natCast] at hK hc
 obtain ⟨A5, c5, rfl, l5, g5⟩ := k41_open hK
 refine ⟨ad, A5, c5, e, fun W hb => atL_mk fun j v hj => ?_, opC_mk l5 g5⟩
 have := hc j v hj
 have h2 : W.cell? (ad.add (i * 9 + j)) = some v := pw_cell_below hb this
 have h3 : (ad.add (i * 9)).add (0 + j) = ad.add (i * 9 + j) := by
  by_cases hj0 : j = 0
  · subst hj0
    rfl
  · rw [add_field ad (i * 9) j (by omega)]
    unfold Addr.add
    rw [if_neg (by omega), Nat.zero_add]
 rw [h3]; exact h2
end Go.Proofs.YtloccjkcmlkifaaDoor
end

section
/- xform.Over: an operation carried over a run. -/
namespace Go.Proofs.YtloccjkcmlkifaaDoor
open Go.RowKit Go.Proofs.YtloccjkcmlkifaaDoor.PAll Go.Proofs.YtloccjkcmlkifaaDoorW.PrintWords

section
variable {P : Program} {ops : Array Oper} {rest : List Oper} {o : Oper} {a : Act} {Q : Exit → Act → World → Prop} {W : World}
theorem ev_ext (cs : Array Value) {N : Tmp} {ty : TypeId} {x : Operand} {d : TypeDesc} {ad : Addr} (hc : atL W ad 0 cs.toList)
 (h : wpList P ops Q rest (a.put (some N) (.agg cs)) W)
 (ho : o.op = .load ty x := by rfl) (hx : a.eval x = .pointer (some ad) := by rfl) (hd : o.dst = some N := by rfl)
 (hw : Region.wanted o (yielded ops a.tmps) = true := by first | exact wanted_plain rfl | (refine wanted_on rfl ?_; simp [yielded])) (hu : P.underlying ty = some d := by first | exact Tryd.underlying41 | exact Tryd.underlying100) (hdd : (match d with | .struct _ | .array _ _ => true | _ => false) = true := by rfl) (hi : (P.info? ty).map (·.size) = some cs.size := by kernel_rfl) : wpList P ops Q (o :: rest) a W := by
 have hr := run_load_wide (P := P) W ad ty cs.toList d hc hu hdd (by simpa using hi)
 refine ev_run (v := .agg cs) hw ?_ (by rw [hd]; exact h)
 unfold execOp
 simp only [ho, hx, Instr.loadAt, Instr.sureAddr, Sem.run_bind, Sem.run_pure, Result.andThen_ok, hr]
end

def overF (e : Bool) (s : S41 × Int) (x : S41) : S41 × Int := if s.2 = 0 then incE s.1 x e else s
structure OverAt (err : Int) (o : S41) (e : Bool) (run : List S41) (w : World) (g6 g3 : Nat) (k : Nat) (s : S41 × Int) (A : Option Addr) (c : Nat) (wr : World) : Prop where
 eq : s = (run.take k).foldl (overF e) (o, err)
 st : St w wr [(g6, 41, zA), (g3, 41, opA s.1 (.slice A s.1.f3.length c))] (fun W => True ∧ OpR W w.heap.size (.slice A s.1.f3.length c) s.1)
end Go.Proofs.YtloccjkcmlkifaaDoor
end

section
/- The document's Over answers as the program's. -/
namespace Go.Proofs.YtloccjkcmlkifaaDoor
open Go.RowKit Go.Proofs.YtloccjkcmlkifaaDoor.PAll Go.Proofs.YtloccjkcmlkifaaDoorW.PrintWords Go.Proofs.YtloccjkcmlkifaaDoorW.PrintLast

section
variable {P : Program} {ops : Array Oper} {Q : Exit → Act → World → Prop} {md : Region.Mode} {S : World → Prop} {ds : List Nat} {fuel : Nat} {l : Array Bool} {a a' : Act} {w w0 : World} {oi : Oper} {N : Tmp} {rest : List Oper} {o : Oper} {W : World} {bs : List Bx} {F : World → Prop}
theorem le_ (i : Nat) (cs : Array Value) {ty : TypeId} {x : Operand} {d : TypeDesc} {ad : Addr} (hS : S w) (hcc : ∀ w', S w' → atL w' ad 0 cs.toList)
 (h : wpAnyLast P md ops Q S ds fuel (l.setIfInBounds i true) a' w)
 (hi : ops[i]? = some oi := by rfl) (hN : oi.dst = some N := by rfl) (hc : takeB md ops ds l (l.setIfInBounds i true) i = true := by kernel_rfl)
 (ho : oi.op = .load ty x := by rfl) (hx : a.eval x = .pointer (some ad) := by rfl)
 (hw : Region.wanted oi (yielded ops a.tmps) = true := by first | exact wanted_plain rfl | (refine wanted_on rfl ?_; simp [yielded]))
 (hu : P.underlying ty = some d := by first | exact Tryd.underlying41 | exact Tryd.underlying100) (hdd : (match d with | .struct _ | .array _ _ => true | _ => false) = true := by rfl) (hs : (P.info? ty).map (·.size) = some cs.size := by kernel_rfl)
 (ha : a.put (some N) (.agg cs) = a' := by (simp only [Act.put, List.setIfInBounds_toArray, List.set_cons_zero, List.set_cons_succ]; rfl))
 (hQ : ∀ c a w, Q (.panic c) (a.put oi.dst (.agg cs)) w → Q (.panic c) a w := by exact fun _ _ _ h => h) : wpAnyLast P md ops Q S ds (fuel + 1) l a w :=
 take_ (l.setIfInBounds i true) hi hN hc hQ (.inl ⟨hw, fun w' hS' => by
  have hr := run_load_wide (P := P) w' ad ty cs.toList d (hcc w' hS') hu hdd (by simpa using hs)
  unfold execOp
  simp only [ho, hx, Instr.loadAt, Instr.sureAddr, Sem.run_bind, Sem.run_pure, Result.andThen_ok, hr]⟩) hS ha h
theorem ev_lit (S : Aside0 (St w0 W bs F)) (cs : Array Value) (n : Nat) {ty : TypeId} {xs : Array (Nat × Operand)}
 (h : ∀ g w', Aside0 (St w0 w' ((g, 41, cs) :: bs) F) → wpList P ops Q rest (a.put (some N) (.slice (some ⟨g, 0, none⟩) n n)) w')
 (ho : o.op = .buildSlice ty n xs := by rfl) (hd : o.dst = some N := by rfl) (hw : Region.wanted o (yielded ops a.tmps) = true := by exact wanted_plain rfl)
 (hrun : (execOp a.eval o).run P W = .ok (.value (.slice (some ⟨W.heap.size, 0, none⟩) n n)) (W.alloc (.cells cs 41 (0, 0))) := by first | (go_simp; done) | (go_simp; rfl)) : wpList P ops Q (o :: rest) a W :=
 have _ := ho
 ev_run hw hrun (by rw [hd]; exact h _ _ ⟨S.out.push (below_alloc (Below.refl _ _) _) (blk_new W _) rfl⟩)
end
theorem opA_K {w : World} {v : Value} {o : S41} (h : OpC w v o) : k41.K w o (opA o v).toList := by
 obtain ⟨A, c, rfl, h1, h2⟩ := h
 exact k41_mk w o h1 h2
theorem runC_box1 {w : World} {g : Nat} {v : Value} {o : S41} (h : w.heap[g]? = some (.cells (opA o v) 41 (0, 0))) (ho : OpC w v o) : RunC w (.slice (some ⟨g, 0, none⟩) 1 1) [o] := by
 refine ⟨some ⟨g, 0, none⟩, 1, rfl, Nat.le_refl _, rfl, by simp, fun _ => ⟨_, rfl, fun j p hj => ?_⟩⟩
 match j, hj with
 | 0, hj =>
  obtain rfl := Option.some.inj hj
  refine ⟨_, rfl, opA_K ho, fun i u hu => ?_⟩
  rw [add_plain, blk_cell h, ← hu]
  simp [k41]
 | j + 1, hj => simp at hj
theorem runC_box2 {w : World} {g : Nat} {v u : Value} {o p : S41} (h : w.heap[g]? = some (.cells (opA o v ++ opA p u) 41 (0, 0))) (ho : OpC w v o) (hp : OpC w u p) : RunC w (.slice (some ⟨g, 0, none⟩) 2 2) [o, p] := by
 refine ⟨some ⟨g, 0, none⟩, 2, rfl, Nat.le_refl _, rfl, by simp, fun _ => ⟨_, rfl, fun j q hj => ?_⟩⟩
 match j, hj with
 | 0, hj =>
  obtain rfl := Option.some.inj hj
  refine ⟨_, rfl, opA_K ho, fun i x hx => ?_⟩
  have hi : i < 9 := (List.getElem?_eq_some_iff.1 hx).1
  rw [add_plain, blk_cell h, ← hx, Nat.zero_mul, Nat.zero_add, Array.getElem?_append_left (by simpa using hi)]
  simp
 | 1, hj =>
  obtain rfl := Option.some.inj hj
  refine ⟨_, rfl, opA_K hp, fun i x hx => ?_⟩
  have e : 1 * k41.sz = 9 := rfl
  rw [add_plain, blk_cell h, ← hx, e, Array.getElem?_append_right (by simp)]
  simp
 | j + 2, hj => simp at hj
end Go.Proofs.YtloccjkcmlkifaaDoor
end

section
/- Two operations that are one are told equal: redraftref04.Equal, and what is made of it. -/
namespace Go.Proofs.YtloccjkcmlkifaaDoor
open Go.RowKit Go.Proofs.YtloccjkcmlkifaaDoor.PAll Go.Proofs.YtloccjkcmlkifaaDoorW.PrintWords Go.Proofs.YtloccjkcmlkifaaDoorW.PrintLast

def Yes (w : World) : Ending → World → Prop := fun e w' => e = .returned (.bool true) ∧ Below w.heap.size w w'
theorem same_loop (l : List S94) (hl : l.length ≤ 4611686018427387904) : ∀ (d k i : Nat), l.length = i + d → d + 1 ≤ k → redraftref04_Same.l0 k l l (i : Int) = some true := by
 intro d
 induction d with
 | zero =>
  intro k i h hk
  obtain ⟨k, rfl⟩ : ∃ m, k = m + 1 := ⟨k - 1, by omega⟩
  rw [redraftref04_Same.l0, if_neg (by omega)]
 | succ d ih =>
  intro k i h hk
  obtain ⟨k, rfl⟩ : ∃ m, k = m + 1 := ⟨k - 1, by omega⟩
  have q1 : (i : Int) < (l.length : Int) := by omega
  have q2 : (0 : Int) ≤ (i : Int) := by omega
  have w : wrap64 ((i : Int) + 1) = ((i + 1 : Nat) : Int) := by rw [wrap_id (by omega) (by omega)]; omega
  rw [redraftref04_Same.l0, if_pos q1, if_pos q2, if_pos q1, if_pos rfl, if_pos rfl, w]
  exact ih k (i + 1) (by omega) (by omega)
theorem same_any (o : S41) (v u : Value) (w : World) (hv : OpC w v o) (hu : OpC w u o) (hl : o.f3.length ≤ 4611686018427387904) :
 Calls Tryd.prog 76 #[v, u] w (Yes w) := by
 obtain ⟨A, c, rfl, h1, h2⟩ := hv
 obtain ⟨B, d, rfl, h3, h4⟩ := hu
 refine (redraftref04_Same.calls (o.f3.length + 1) A c o.f3 B d o.f3 true w h2 h1 h4 h3 ?_).mono fun e w2 h => ⟨h.1, h.2.below⟩
 unfold redraftref04_Same.f
 rw [if_pos rfl]
 exact same_loop o.f3 hl o.f3.length _ 0 (by omega) (Nat.le_refl _)
set_option maxRecDepth 100000 in
set_option maxHeartbeats 8000000 in
theorem equal_any (o : S41) (v u : Value) (w : World) (hv : OpC w v o) (hu : OpC w u o) (hl : o.f3.length ≤ 4611686018427387904) :
 Calls Tryd.prog 65 #[.agg (opA o v), .agg (opA o u)] w (Yes w) := by
 obtain ⟨A, c, rfl, h1, h2⟩ := hv
 obtain ⟨B, d, rfl, h3, h4⟩ := hu
 have S := Aside0.mk (St.init w (F := fun _ => True) (fun _ _ => trivial))
 have HV := Aside0.mk (opC_mk h1 h2); have HU := Aside0.mk (opC_mk h3 h4); have HL := Aside0.mk hl
 clear h1 h2 h3 h4 hl
 go_enter Tryd.func65, Tryd.ntmps65
 go_wp2_with (first | ((go_at_call 76; (with_reducible refine (same_any o _ _ _ (HV.out.below S.out.below) (HU.out.below S.out.below) HL.out).mono ?_); rintro e_ w7 ⟨rfl, hb⟩; replace S := Aside0.mk (S.out.step hb); clear hb); refine Hid.out ?_) | ((with_reducible refine gate_box rfl ?_); refine ev_box S ?_; clear S; intro _ _ S) | ((with_reducible refine gate_load rfl ?_); first | refine ev_load S ?_ | refine ev_fld S ?_) | (go_at_call 76; (with_reducible refine (same_any o _ _ _ (HV.out.below S.out.below) (HU.out.below S.out.below) HL.out).mono ?_); rintro e_ w7 ⟨rfl, hb⟩; replace S := Aside0.mk (S.out.step hb); clear hb))
 refine Lib.hid ?_
 dsimp only [List.append] at *
 go_wp2_with (first | ((with_reducible refine gate_box rfl ?_); refine ev_box S ?_; clear S; intro _ _ S) | ((with_reducible refine gate_load rfl ?_); first | refine ev_load S ?_ | refine ev_fld S ?_) | (go_at_call 76; (with_reducible refine (same_any o _ _ _ (HV.out.below S.out.below) (HU.out.below S.out.below) HL.out).mono ?_); rintro e_ w7 ⟨rfl, hb⟩; replace S := Aside0.mk (S.out.step hb); clear hb))
 go_ret
 exact ⟨rfl, S.out.below⟩
set_option maxRecDepth 100000 in
theorem sameOp_any (o : S41) (v u : Value) (w : World) (hv : OpC w v o) (hu : OpC w u o) (hl : o.f3.length ≤ 4611686018427387904) :
 Calls Tryd.prog 43 #[.agg (opA o v), .agg (opA o u)] w (Yes w) := by
 have S := Aside0.mk (St.init w (F := fun _ => True) (fun _ _ => trivial))
 have HV := Aside0.mk hv; have HU := Aside0.mk hu; have HL := Aside0.mk hl
 clear hv hu hl
 go_enter Tryd.func43, Tryd.ntmps43
 go_wp2_with (first | ((with_reducible refine gate_box rfl ?_); refine ev_box S ?_; clear S; intro _ _ S) | ((with_reducible refine gate_load rfl ?_); refine ev_load S ?_) | (go_at_call 65; (with_reducible refine (equal_any o _ _ _ (HV.out.below S.out.below) (HU.out.below S.out.below) HL.out).mono ?_); rintro e_ w7 ⟨rfl, hb⟩; replace S := Aside0.mk (S.out.step hb); clear hb))
 go_ret
 exact ⟨rfl, S.out.below⟩
theorem num_any (e : Int) (w : World) : Calls Tryd.prog 23 #[.int .i64 e] w fun e' w' => e' = .returned (.int .i64 e) ∧ Below w.heap.size w w' := by
 go_enter Tryd.func23, Tryd.ntmps23
 go_wp2
 go_ret
 exact ⟨rfl, Below.refl _ _⟩
end Go.Proofs.YtloccjkcmlkifaaDoor
end

section
/- A script's step as a value; what the laws ask of two answers that are one. -/
namespace Go.Proofs.YtloccjkcmlkifaaDoor
open Go.RowKit Go.Proofs.YtloccjkcmlkifaaDoor.PAll Go.Proofs.YtloccjkcmlkifaaDoorW.PrintWords Go.Proofs.YtloccjkcmlkifaaDoorW.PrintLast

abbrev stA (s : S100) (va vb vr vo : Value) : Array Value := #[.int .i64 s.f0, .int .i64 s.f1.f0.f0.f0, .int .i64 s.f1.f0.f0.f1, .int .i64 s.f1.f0.f1, .int .i64 s.f1.f1, .string s.f1.f2, va, .int .i64 s.f1.f4.f0, .int .i64 s.f1.f4.f1, .bool s.f1.f5,
 .int .i64 s.f2.f0.f0.f0, .int .i64 s.f2.f0.f0.f1, .int .i64 s.f2.f0.f1, .int .i64 s.f2.f1, .string s.f2.f2, vb, .int .i64 s.f2.f4.f0, .int .i64 s.f2.f4.f1, .bool s.f2.f5, vr, vo, .bool s.f5, .int .i64 s.f6, .int .i64 s.f7]
structure StepC (w : World) (va vb vr vo : Value) (s : S100) : Prop where
 a : OpC w va s.f1
 b : OpC w vb s.f2
 r : RunC w vr s.f3
 o : RunC w vo s.f4
theorem StepC.below {w w' : World} {va vb vr vo : Value} {s : S100} (h : StepC w va vb vr vo s) (hb : Below w.heap.size w w') : StepC w' va vb vr vo s := ⟨h.a.below hb, h.b.below hb, h.r.below hb, h.o.below hb⟩
theorem atL_sub {w : World} {g : Nat} {t : TypeId} {cs : Array Value} (h : w.heap[g]? = some (.cells cs t (0, 0))) (j : Nat) (sub : List Value) (hs : sub = (cs.toList.drop j).take sub.length) : atL w ⟨g, j, none⟩ 0 sub :=
 atL_mk fun i v hv => by
  have hadd : (⟨g, j, none⟩ : Addr).add (0 + i) = ⟨g, j + i, none⟩ := by
   rw [Nat.zero_add]; unfold Addr.add
   by_cases hi0 : i = 0
   · rw [if_pos hi0, hi0, Nat.add_zero]
   · rw [if_neg hi0]
  rw [hadd, blk_cell h]
  rw [hs] at hv
  have hi : i < sub.length := by
   have := (List.getElem?_eq_some_iff.1 hv).1
   simp at this; omega
  rw [List.getElem?_take_of_lt hi, List.getElem?_drop] at hv
  simpa using hv
section
variable {P : Program} {ops : Array Oper} {rest : List Oper} {o : Oper} {a a' : Act} {Q : Exit → Act → World → Prop} {w0 W w : World} {bs : List Bx} {F : World → Prop} {g : Nat} {t : TypeId} {cs : Array Value}
variable {md : Region.Mode} {S : World → Prop} {ds : List Nat} {fuel : Nat} {l : Array Bool} {oi : Oper} {N : Tmp}
end
theorem foot_S {α : Type} {d : Kd α} {e : Nat} {w : World} {base : Nat} {v : Value} {xs : List α} (h : Kd.S d e w base (fun _ => True) v xs) : Foot (fun W => Kd.S d e W base (fun _ => True) v xs) w (fun k => base ≤ k) := by
 obtain ⟨f, h⟩ := h
 exact fun W' hW => ⟨f, foot_R h W' hW⟩
theorem St.addS {α : Type} {d : Kd α} {e : Nat} {w0 w w' : World} {bs : List Bx} {F : World → Prop} {v : Value} {xs : List α} (S : St w0 w bs F) (hb : Below w.heap.size w w') (h : Kd.S d e w' w.heap.size (fun _ => True) v xs) : St w0 w' bs (fun W => F W ∧ Kd.S d e W w0.heap.size (fun _ => True) v xs) :=
 S.add hb fun W' hW => Kd.S_lower (foot_S h W' hW) S.below.size
def OwnRun (w : World) (base : Nat) (v : Value) (l : List S41) : Prop := Kd.S k41 41 w base (fun _ => True) v l
theorem OwnRun.C {w : World} {base : Nat} {v : Value} {l : List S41} (h : OwnRun w base v l) : RunC w v l := Kd.S_reads h
theorem copyRun_loop (l : List S41) (hf : ∀ o ∈ l, fineOp o) (hl : l.length ≤ 1048576) : ∀ (d k i : Nat), l.length = i + d → d + 1 ≤ k → redraftref05_CopyRun.l0 k l (l.take i) (i : Int) = some l := by
 intro d
 induction d with
 | zero =>
  intro k i h hk
  obtain ⟨k, rfl⟩ : ∃ m, k = m + 1 := ⟨k - 1, by omega⟩
  rw [redraftref05_CopyRun.l0, if_neg (by omega), List.take_of_length_le (by omega)]
 | succ d ih =>
  intro k i h hk
  obtain ⟨k, rfl⟩ : ∃ m, k = m + 1 := ⟨k - 1, by omega⟩
  have hi : i < l.length := by omega
  have q1 : (i : Int) < (l.length : Int) := by omega
  have q2 : (0 : Int) ≤ (i : Int) := by omega
  have q3 : (l.take i).length < 1466015503701 := by simp; omega
  have w : wrap64 ((i : Int) + 1) = ((i + 1 : Nat) : Int) := by rw [wrap_id (by omega) (by omega)]; omega
  obtain ⟨o, ho⟩ : ∃ o, o = l[i] := ⟨_, rfl⟩
  have e : rd_T41 l (i : Int) = o := by unfold rd_T41; rw [Int.toNat_natCast, List.getD_eq_getElem?_getD, List.getElem?_eq_getElem hi, ho]; rfl
  have hfo := hf o (by rw [ho]; exact List.getElem_mem hi)
  rw [redraftref05_CopyRun.l0, if_pos q1, if_pos q2, e, copy_is o hfo]
  simp only [Option.bind_some]
  rw [if_pos q3, w]
  have := ih k (i + 1) (by omega) (by omega)
  rw [List.take_succ_eq_append_getElem hi, ← ho] at this
  exact this
theorem copyRun_any (l : List S41) (v : Value) (w : World) (h : RunC w v l) (hf : ∀ o ∈ l, fineOp o) (hl : l.length ≤ 1048576) :
 Calls Tryd.prog 36 #[v] w fun e w' => ∃ u, e = .returned u ∧ OwnRun w' w.heap.size u l ∧ Below w.heap.size w w' := by
 obtain ⟨A, c, rfl, h1, h2⟩ := h
 have := copyRun_loop l hf hl l.length (l.length + 1) 0 (by omega) (by omega)
 exact redraftref05_CopyRun.calls (l.length + 1) A c l l w h2 h1 (by unfold redraftref05_CopyRun.f; exact this)
end Go.Proofs.YtloccjkcmlkifaaDoor
end

section
/- A run of the walk's own lies in one box: its operations are read and written there. -/
namespace Go.Proofs.YtloccjkcmlkifaaDoor
open Go.RowKit Go.Proofs.YtloccjkcmlkifaaDoor.PAll Go.Proofs.YtloccjkcmlkifaaDoorW.PrintWords Go.Proofs.YtloccjkcmlkifaaDoorW.PrintLast

abbrev fineRun (l : List S41) : Prop := l.length ≤ 1048576 ∧ ∀ o ∈ l, fineOp o
abbrev OV := S41 × Value
def cellsP (p : List OV) : List Value := p.flatMap fun x => (opA x.1 x.2).toList
theorem cellsP_app (p q : List OV) : cellsP (p ++ q) = cellsP p ++ cellsP q := List.flatMap_append
theorem cellsP_cons (x : OV) (q : List OV) : cellsP (x :: q) = (opA x.1 x.2).toList ++ cellsP q := List.flatMap_cons
theorem cellsP_len : ∀ p : List OV, (cellsP p).length = p.length * 9
 | [] => rfl
 | x :: t => by
  rw [cellsP_cons, List.length_append, cellsP_len t]
  show 9 + t.length * 9 = (t.length + 1) * 9
  omega
abbrev OwnP (base : Nat) (p : List OV) (W : World) : Prop := ∀ x ∈ p, OpR W base x.2 x.1
theorem ownP_put {base : Nat} {pd pr : List OV} {x y : OV} {W : World} (h : OwnP base (pd ++ x :: pr) W) (hy : OpR W base y.2 y.1) : OwnP base (pd ++ y :: pr) W := fun z hz => by
 rcases List.mem_append.1 hz with hz | hz
 · exact h z (List.mem_append_left _ hz)
 · rcases List.mem_cons.1 hz with rfl | hz
   · exact hy
   · exact h z (List.mem_append_right _ (List.mem_cons_of_mem _ hz))
def RunAt (bs : List Bx) (i : Nat) (v : Value) (p : List OV) : Prop :=
 (v = .slice none 0 0 ∧ p = []) ∨ ∃ g c rest, v = .slice (some ⟨g, 0, none⟩) p.length c ∧ p.length ≤ c ∧ bs[i]? = some (g, 41, (cellsP p ++ rest).toArray)
theorem RunAt.cons {bs : List Bx} {i : Nat} {v : Value} {p : List OV} (h : RunAt bs i v p) (b : Bx) : RunAt (b :: bs) (i + 1) v p := by
 rcases h with h | ⟨g, c, rest, h1, h2, h3⟩
 · exact .inl h
 · exact .inr ⟨g, c, rest, h1, h2, by rw [List.getElem?_cons_succ]; exact h3⟩
theorem RunAt.tail {b : Bx} {bs : List Bx} {i : Nat} {v : Value} {p : List OV} (h : RunAt (b :: bs) (i + 1) v p) : RunAt bs i v p := by
 rcases h with h | ⟨g, c, rest, h1, h2, h3⟩
 · exact .inl h
 · exact .inr ⟨g, c, rest, h1, h2, by rw [List.getElem?_cons_succ] at h3; exact h3⟩
theorem RunAt.slice {bs : List Bx} {i : Nat} {v : Value} {p : List OV} (h : RunAt bs i v p) : ∃ A c, v = .slice A p.length c := by
 rcases h with ⟨h, rfl⟩ | ⟨g, c, rest, h1, h2, h3⟩
 · exact ⟨none, 0, h⟩
 · exact ⟨_, c, h1⟩
theorem RunAt.at_ {bs : List Bx} {i n c : Nat} {A : Option Addr} {pd pr : List OV} {x : OV} (h : RunAt bs i (.slice A n c) (pd ++ x :: pr)) :
 ∃ g rest, A = some ⟨g, 0, none⟩ ∧ n = (pd ++ x :: pr).length ∧ n ≤ c ∧ bs[i]? = some (g, 41, (cellsP (pd ++ x :: pr) ++ rest).toArray) := by
 rcases h with ⟨_, h⟩ | ⟨g, c', rest, h1, h2, h3⟩
 · simp at h
 · injection h1 with e1 e2 e3
   exact ⟨g, rest, e1, e2, by omega, h3⟩
theorem run_cells (pd pr : List OV) (x : OV) (rest : List Value) : (opA x.1 x.2).toList = ((cellsP (pd ++ x :: pr) ++ rest).drop (pd.length * 9)).take (opA x.1 x.2).toList.length := by
 rw [cellsP_app, cellsP_cons, List.append_assoc, ← cellsP_len pd, List.drop_left, List.append_assoc, List.take_left]
theorem St.atRun {w0 w : World} {bs : List Bx} {F : World → Prop} (S : St w0 w bs F) {i n c : Nat} {ad : Addr} {pd pr : List OV} {x : OV} (h : RunAt bs i (.slice (some ad) n c) (pd ++ x :: pr)) : atL w (ad.add (pd.length * 9)) 0 (opA x.1 x.2).toList := by
 obtain ⟨g, rest, e, _, _, h3⟩ := h.at_
 obtain rfl := Option.some.inj e
 rw [add_plain]
 exact atL_sub (S.at_ i h3) _ _ (run_cells pd pr x rest)
theorem blk_setMid {g : Nat} {t : TypeId} : ∀ (vs : List Value) (pre old suf : List Value) (W : World), W.heap[g]? = some (.cells (pre ++ (old ++ suf)).toArray t (0, 0)) → old.length = vs.length →
 (W.setCells g pre.length vs).heap[g]? = some (.cells (pre ++ (vs ++ suf)).toArray t (0, 0))
 | [], pre, old, suf, W, h, hl => by
  obtain rfl : old = [] := by simpa using hl
  exact h
 | _ :: _, _, [], _, _, _, hl => by simp at hl
 | v :: r, pre, u :: q, suf, W, h, hl => by
  show ((W.setCell ⟨g, pre.length, none⟩ v).setCells g (pre.length + 1) r).heap[g]? = _
  have h1 : (W.setCell ⟨g, pre.length, none⟩ v).heap[g]? = some (.cells ((pre ++ [v]) ++ (q ++ suf)).toArray t (0, 0)) := by
   rw [blk_set h]
   congr 2
   simp
  have := blk_setMid r (pre ++ [v]) q suf (W.setCell ⟨g, pre.length, none⟩ v) h1 (by simpa using hl)
  simpa using this
theorem St.putRun {w0 w : World} {bs : List Bx} {F : World → Prop} (S : St w0 w bs F) {i n c : Nat} {g : Nat} {pd pr : List OV} {x : OV} (h : RunAt bs i (.slice (some ⟨g, 0, none⟩) n c) (pd ++ x :: pr)) (y : OV) :
 ∃ B, St w0 (w.setCells g (pd.length * 9) (opA y.1 y.2).toList) (bs.set i B) F ∧ RunAt (bs.set i B) i (.slice (some ⟨g, 0, none⟩) n c) (pd ++ y :: pr) ∧ ∀ j u q, j ≠ i → RunAt bs j u q → RunAt (bs.set i B) j u q := by
 obtain ⟨g', rest, e, hn, hc, h3⟩ := h.at_
 have e' := Option.some.inj e
 injection e' with e'
 subst e'
 have hi : i < bs.length := (List.getElem?_eq_some_iff.1 h3).1
 have hb := S.at_ i h3
 refine ⟨(g, 41, (cellsP (pd ++ y :: pr) ++ rest).toArray), S.put i h3 (below_setCells _ _ _ S.below (S.ge i h3)) ?_ (fun k hk => setCells_far _ _ _ k hk), .inr ⟨g, c, rest, ?_, ?_, ?_⟩, fun j u q hj hr => ?_⟩
 · have := blk_setMid (g := g) (t := 41) (opA y.1 y.2).toList (cellsP pd) (opA x.1 x.2).toList (cellsP pr ++ rest) w (by rw [hb, cellsP_app, cellsP_cons]; simp only [List.append_assoc]) rfl
   rw [cellsP_len] at this
   rw [this, cellsP_app, cellsP_cons]
   simp only [List.append_assoc]
 · rw [hn]; simp
 · rw [hn] at hc; simpa using hc
 · rw [List.getElem?_set_self hi]
 · rcases hr with hr | ⟨g2, c2, r2, q1, q2, q3⟩
   · exact .inl hr
   · exact .inr ⟨g2, c2, r2, q1, q2, by rw [List.getElem?_set_ne (Ne.symm hj)]; exact q3⟩
section
variable {P : Program} {ops : Array Oper} {rest : List Oper} {o : Oper} {a : Act} {Q : Exit → Act → World → Prop} {w0 W : World} {bs : List Bx} {F : World → Prop} {g : Nat} {t : TypeId} {cs : Array Value}
theorem ev_put (S : Aside0 (St w0 W bs F)) {i n c : Nat} {ad : Addr} {pd pr : List OV} {x : OV} (HR : Aside0 (RunAt bs i (.slice (some ad) n c) (pd ++ x :: pr))) (y : OV) {p : Tmp} {v : Operand} {k : Nat}
 (h : ∀ w' B, Aside0 (St w0 w' (bs.set i B) F) → Aside0 (RunAt (bs.set i B) i (.slice (some ad) n c) (pd ++ y :: pr)) → (∀ j u q, j ≠ i → RunAt bs j u q → RunAt (bs.set i B) j u q) → wpList P ops Q rest a w')
 (hk : pd.length = k := by rfl) (ho : o.op = .store 41 (.tmp p) v := by rfl) (hp : a.eval (.tmp p) = .pointer (some (ad.add (k * 9))) := by rfl) (hv : a.eval v = .agg (opA y.1 y.2) := by rfl) (hN : o.dst = none := by rfl)
 (hw : Region.wanted o (yielded ops a.tmps) = true := by exact wanted_plain rfl) (hi : (P.info? 41).map (·.size) = some 9 := by kernel_rfl) (hone : (opA y.1 y.2).toList.all (·.oneCell') = true := by rfl) : wpList P ops Q (o :: rest) a W := by
 obtain ⟨g, r, e, hn, hc, h3⟩ := HR.out.at_
 obtain rfl := Option.some.inj e
 have hb := S.out.at_ i h3
 rw [add_plain, ← hk] at hp
 obtain ⟨B, h1, h2, h4⟩ := S.out.putRun HR.out y
 have hth : W.there g (pd.length * 9) (opA y.1 y.2).size := fun j hj => ⟨by
  have hlt : pd.length * 9 + j < (cellsP (pd ++ x :: pr) ++ r).length := by
   rw [List.length_append, cellsP_len, List.length_append, List.length_cons]
   have : j < 9 := hj
   omega
  rw [blk_cell hb, List.getElem?_toArray, List.getElem?_eq_getElem hlt]
  rfl, blk_frozen hb _⟩
 have hrun : (execOp a.eval o).run P W = .ok .skip (W.setCells g (pd.length * 9) (opA y.1 y.2).toList) := by
  unfold execOp
  simp only [ho, hp, hv, Sem.run_bind, Sem.run_pure, Result.andThen_ok, run_storeAt_mid W g (pd.length * 9) 41 (opA y.1 y.2) hth hi (by rw [← Array.all_toList]; exact hone)]
 exact ev_skip hw hN hrun (h _ B ⟨h1⟩ ⟨h2⟩ h4)
end
theorem St.addBox {w0 w w' : World} {bs : List Bx} {F F2 : World → Prop} {g : Nat} {t : TypeId} {cs : Array Value} (S : St w0 w bs F) (hb : Below w.heap.size w w') (hn : w'.heap[g]? = some (.cells cs t (0, 0))) (hg : w.heap.size ≤ g) (h2 : Foot F2 w' (fun k => w.heap.size ≤ k ∧ k ≠ g)) : St w0 w' ((g, t, cs) :: bs) (fun W => F W ∧ F2 W) := by
 have S' := S.step hb
 have hlt : ∀ k ∈ bs.map (·.1), k < w.heap.size := fun k hk => by
  obtain ⟨b, hb', rfl⟩ := List.mem_map.1 hk
  exact S.lt b hb'
 refine ⟨S'.below, fun b hm => ?_, ?_, fun W' hW => ⟨((S.foot.old hb).mono fun k hk hm => ?_) W' hW, (h2.mono fun k hk hm => ?_) W' hW⟩⟩
 · rcases List.mem_cons.1 hm with rfl | hm
   · exact ⟨hn, Nat.le_trans S.below.size hg⟩
   · exact S'.box b hm
 · rw [List.map_cons, List.nodup_cons]
   exact ⟨fun hm => by have := hlt _ hm; have e : g < w.heap.size := this; omega, S.nd⟩
 · rcases List.mem_cons.1 hm with h | h
   · have e : k = g := h
     have := hk.2
     omega
   · exact hk.1 h
 · rcases List.mem_cons.1 hm with h | h
   · exact hk.2 h
   · have := hlt _ h
     have := hk.1
     omega
theorem ownP_foot {w : World} {base : Nat} {ok : Nat → Prop} {p : List OV} (h : ∀ x ∈ p, Kd.R k94 94 w base ok x.2 x.1.f3) : Foot (OwnP base p) w (fun k => base ≤ k ∧ ok k) := fun _ hW x hx =>
 Kd.R_mono (Kd.R_move (Kd.R_bound (h x hx)) (fun k hk => hW k ⟨hk.2.1, hk.1⟩ hk.2.2.1)) (fun _ _ => trivial)
theorem ownP_lower {w : World} {base base' : Nat} {p : List OV} (h : OwnP base p w) (hb : base' ≤ base) : OwnP base' p w := fun x hx => Kd.R_lower (h x hx) hb
theorem reps_pairs {w : World} {base : Nat} {ok : Nat → Prop} : ∀ {l : List S41} {cs : List Value}, Reps (k41.M w base ok) 9 l cs → ∃ p : List OV, p.map (·.1) = l ∧ cs = cellsP p ∧ ∀ x ∈ p, Kd.R k94 94 w base ok x.2 x.1.f3
 | [], cs, h => ⟨[], rfl, by
  have := h.1
  exact List.length_eq_zero_iff.1 (by simpa using this), by simp⟩
 | o :: t, cs, h => by
  have h0 := h.2 0 o rfl
  rw [Nat.zero_mul, List.drop_zero] at h0
  obtain ⟨v5, e5, hv5⟩ := k41_openM h0
  have ht : Reps (k41.M w base ok) 9 t (cs.drop 9) := ⟨by rw [List.length_drop, h.1, List.length_cons]; omega, fun j p hj => by
   have := h.2 (j + 1) p (by simpa using hj)
   rw [List.drop_drop]
   rw [show 9 + j * 9 = (j + 1) * 9 by omega]
   exact this⟩
  obtain ⟨p, hp1, hp2, hp3⟩ := reps_pairs ht
  refine ⟨(o, v5) :: p, by rw [List.map_cons, hp1], ?_, fun x hx => ?_⟩
  · rw [cellsP_cons, ← hp2, ← List.take_append_drop 9 cs, e5]
    simp
  · rcases List.mem_cons.1 hx with rfl | hx
    · exact hv5
    · exact hp3 x hx
theorem St.addRun {w0 w w' : World} {bs : List Bx} {F : World → Prop} {v u : Value} {l : List S41} {i : Nat} {q : List OV} (S : St w0 w bs F) (hb : Below w.heap.size w w') (h : OwnRun w' w.heap.size v l) (A : RunAt bs i u q) :
 ∃ p bs' i' j, p.map (·.1) = l ∧ j ≠ i' ∧ RunAt bs' i' u q ∧ RunAt bs' j v p ∧ St w0 w' bs' (fun W => F W ∧ OwnP w0.heap.size p W) := by
 obtain ⟨h0, inner, ho, hr⟩ := Kd.S_R h
 obtain ⟨p, hp1, hp2, hp3⟩ := reps_pairs hr
 have hpl : p.length = l.length := by rw [← hp1, List.length_map]
 rcases ho.2 with ⟨rfl, hl⟩ | ⟨g, cap, cur, rfl, hg, hh, hcap, _, hcs, hct⟩
 · obtain rfl : p = [] := List.length_eq_zero_iff.1 (hpl.trans hl)
   exact ⟨[], bs, i, i + 1, hp1, by omega, A, .inl ⟨rfl, rfl⟩, (S.step hb).weak fun _ h => ⟨h, by simp [OwnP]⟩⟩
 · have hcur : cur = (cellsP p ++ cur.toList.drop (l.length * 9)).toArray := by
    have hct' : List.take (l.length * 9) cur.toList = inner := hct
    rw [← hp2, ← hct', List.take_append_drop]
   refine ⟨p, (g, 41, cur) :: bs, i + 1, 0, hp1, by omega, A.cons _, .inr ⟨g, cap, cur.toList.drop (l.length * 9), by rw [hpl], by omega, by rw [← hcur]; rfl⟩, S.addBox hb hh hg (((ownP_foot hp3).imp fun W hW => ownP_lower hW S.below.size).mono fun k hk => ⟨hk.1, fun e => hk.2.2 (by rw [e]; rfl)⟩)⟩
def RunR (w : World) (base : Nat) (v : Value) (l : List S41) : Prop := Foot (fun W => RunC W v l) w (fun k => base ≤ k)
theorem RunR.C {w : World} {base : Nat} {v : Value} {l : List S41} (h : RunR w base v l) : RunC w v l := Foot.now h
theorem runR_nil (w : World) (base : Nat) : RunR w base (.slice none 0 0) [] := fun _ _ => ⟨none, 0, rfl, Nat.le_refl _, rfl, by simp, fun h => absurd h (by simp)⟩
theorem run_C {W : World} {base : Nat} {g c : Nat} {p : List OV} {rest : List Value} (hp : OwnP base p W) (hh : W.heap[g]? = some (.cells (cellsP p ++ rest).toArray 41 (0, 0))) (hc : p.length ≤ c) (hn : p.length ≤ 1048576) : RunC W (.slice (some ⟨g, 0, none⟩) p.length c) (p.map (·.1)) := by
 refine ⟨some ⟨g, 0, none⟩, c, by rw [List.length_map], by rw [List.length_map]; exact hc, rfl, by rw [List.length_map]; omega, fun _ => ⟨_, rfl, fun j o hj => ?_⟩⟩
 rw [List.getElem?_map] at hj
 obtain ⟨x, hx, rfl⟩ := Option.map_eq_some_iff.1 hj
 obtain ⟨hjl, hjx⟩ := List.getElem?_eq_some_iff.1 hx
 have hm : x ∈ p := List.mem_of_getElem? hx
 refine ⟨(opA x.1 x.2).toList, rfl, opA_K (hp x hm).C, fun k u hu => ?_⟩
 have hsplit : p = p.take j ++ x :: p.drop (j + 1) := by
  rw [← hjx, ← List.drop_eq_getElem_cons hjl, List.take_append_drop]
 have hk : k < 9 := (List.getElem?_eq_some_iff.1 hu).1
 have hc2 := run_cells (p.take j) (p.drop (j + 1)) x rest
 rw [← hsplit, List.length_take, Nat.min_eq_left (by omega)] at hc2
 rw [add_plain, blk_cell hh, ← hu, hc2]
 rw [List.getElem?_take_of_lt (show k < (opA x.1 x.2).toList.length from hk), List.getElem?_drop, List.getElem?_toArray]
 rfl
theorem RunAt.R {w0 w : World} {bs : List Bx} {F : World → Prop} {i : Nat} {v : Value} {p : List OV} (h : RunAt bs i v p) (S : St w0 w bs F) (hp : OwnP w0.heap.size p w) (hn : p.length ≤ 1048576) : RunR w w0.heap.size v (p.map (·.1)) := by
 rcases h with ⟨rfl, rfl⟩ | ⟨g, c, rest, rfl, hc, hi⟩
 · exact runR_nil _ _
 · intro W hW
   refine run_C (base := w0.heap.size) (rest := rest) (fun x hx => Kd.R_mono (Kd.R_move (Kd.R_bound (hp x hx)) (fun k hk => hW k hk.2.1 hk.2.2.1)) (fun _ _ => trivial)) ?_ hc hn
   have hb := S.at_ i hi
   exact (hW g (S.ge i hi) (blk_lt hb)).trans hb
theorem clones_loop (l : List S41) (hf : ∀ o ∈ l, fineOp o) (hl : l.length ≤ 1048576) : ∀ (d k i : Nat), l.length = i + d → d + 1 ≤ k → xform_clones.l0 k (l.take i) l (l.length : Int) (i : Int) = some l := by
 intro d
 induction d with
 | zero =>
  intro k i h hk
  obtain ⟨k, rfl⟩ : ∃ m, k = m + 1 := ⟨k - 1, by omega⟩
  rw [xform_clones.l0, if_neg (by omega), List.take_of_length_le (by omega)]
 | succ d ih =>
  intro k i h hk
  obtain ⟨k, rfl⟩ : ∃ m, k = m + 1 := ⟨k - 1, by omega⟩
  have hi : i < l.length := by omega
  have q1 : (i : Int) < (l.length : Int) := by omega
  have q2 : (0 : Int) ≤ (i : Int) := by omega
  have q3 : (l.take i).length < 1466015503701 := by simp; omega
  have w : wrap64 ((i : Int) + 1) = ((i + 1 : Nat) : Int) := by rw [wrap_id (by omega) (by omega)]; omega
  obtain ⟨o, ho⟩ : ∃ o, o = l[i] := ⟨_, rfl⟩
  have e : rd_T41 l (i : Int) = o := by unfold rd_T41; rw [Int.toNat_natCast, List.getD_eq_getElem?_getD, List.getElem?_eq_getElem hi, ho]; rfl
  have hfo := hf o (by rw [ho]; exact List.getElem_mem hi)
  rw [xform_clones.l0, if_pos q1, if_pos q2, if_pos q1, e, clone_f o hfo.2]
  simp only [Option.bind_some]
  rw [if_pos q3, w]
  have := ih k (i + 1) (by omega) (by omega)
  rw [List.take_succ_eq_append_getElem hi, ← ho] at this
  exact this
theorem clones_any (l : List S41) (v : Value) (w : World) (h : RunC w v l) (hf : ∀ o ∈ l, fineOp o) (hl : l.length ≤ 1048576) :
 Calls Tryd.prog 61 #[v] w fun e w' => ∃ u, e = .returned u ∧ OwnRun w' w.heap.size u l ∧ Below w.heap.size w w' := by
 obtain ⟨A, c, rfl, h1, h2⟩ := h
 have := clones_loop l hf hl l.length (l.length + 1) 0 (by omega) (by omega)
 exact xform_clones.calls (l.length + 1) A c l l w h2 h1 (by unfold xform_clones.f; rw [if_pos (by omega)]; exact this)
end Go.Proofs.YtloccjkcmlkifaaDoor
end

section
/- Cross, as both sides have it; the program's. -/
namespace Go.Proofs.YtloccjkcmlkifaaDoor
open Go.RowKit Go.Proofs.YtloccjkcmlkifaaDoor.PAll Go.Proofs.YtloccjkcmlkifaaDoorW.PrintWords Go.Proofs.YtloccjkcmlkifaaDoorW.PrintLast

def cin : List S41 → List S41 → S41 → (List S41 × S41) × Int
 | fd, [], l => ((fd, l), 0)
 | fd, f :: fr, l => if (incE l f true).2 ≠ 0 then (([], z41), (incE l f true).2) else if (incE f l false).2 ≠ 0 then (([], z41), (incE f l false).2) else cin (fd ++ [(incE f l false).1]) fr (incE l f true).1
def cout : List S41 → List S41 → List S41 → (List S41 × List S41) × Int
 | fs, ld, [] => ((fs, ld), 0)
 | fs, ld, l :: lr => if (cin [] fs l).2 ≠ 0 then (([], []), (cin [] fs l).2) else cout (cin [] fs l).1.1 (ld ++ [(cin [] fs l).1.2]) lr
def crossE (f l : List S41) : (List S41 × List S41) × Int := if ownsE f ≠ 0 then (([], []), ownsE f) else if ownsE l ≠ 0 then (([], []), ownsE l) else cout f [] l
def RetRuns (w : World) (r : (List S41 × List S41) × Int) : Ending → World → Prop := fun e w' => ∃ v u, e = .returned (.tuple #[v, u, .int .i64 r.2]) ∧ RunR w' w.heap.size v r.1.1 ∧ RunR w' w.heap.size u r.1.2 ∧ Below w.heap.size w w'
abbrev goodP (p : List OV) : Prop := ∀ x ∈ p, Good x.1
theorem goodP_put {pd pr : List OV} {x y : OV} (h : goodP (pd ++ x :: pr)) (hy : Good y.1) : goodP (pd ++ y :: pr) := fun z hz => by
 rcases List.mem_append.1 hz with hz | hz
 · exact h z (List.mem_append_left _ hz)
 · rcases List.mem_cons.1 hz with rfl | hz
   · exact hy
   · exact h z (List.mem_append_right _ (List.mem_cons_of_mem _ hz))
theorem goodP_of {l : List S41} {p : List OV} (hp : p.map (·.1) = l) (h : ∀ o ∈ l, Good o) : goodP p := fun x hx => h _ (by rw [← hp]; exact List.mem_map_of_mem hx)
theorem cnt_wrap {n : Nat} (h : n < 1048576) : wrap64 ((n : Int) + 1) = (n : Int) + 1 := wrap_id (by omega) (by omega)
theorem cnt_step {n : Nat} (h : n < 1048576) : Value.int .i64 (wrap64 ((n : Int) + 1)) = Value.int .i64 ((n + 1 : Nat) : Int) := by rw [cnt_wrap h]; rfl
theorem cnt_less {n m : Nat} (h : n < 1048576) (h2 : n < m) : m - (intOf (.int .i64 (wrap64 ((n : Int) + 1)))).toNat < m - (intOf (.int .i64 (n : Int))).toNat := by
 rw [cnt_wrap h]
 show m - ((n : Int) + 1).toNat < m - (n : Int).toNat
 omega
structure CrossO (w : World) (R : (List S41 × List S41) × Int) (Af Al : Option Addr) (cf cl nf nl : Nat) (bs : List Bx) (i j : Nat) (pf pd pr : List OV) (wr : World) : Prop where
 ne : j ≠ i
 f : RunAt bs i (.slice Af nf cf) pf
 l : RunAt bs j (.slice Al nl cl) (pd ++ pr)
 st : St w wr bs (fun W => OwnP w.heap.size pf W ∧ OwnP w.heap.size (pd ++ pr) W)
 gf : goodP pf
 gl : goodP (pd ++ pr)
 nf : pf.length = nf
 nl : (pd ++ pr).length = nl
 eq : R = cout (pf.map (·.1)) (pd.map (·.1)) (pr.map (·.1))
structure CrossI (w : World) (R : (List S41 × S41) × Int) (Af Al : Option Addr) (cf cl nf nl : Nat) (pd pr : List OV) (bs : List Bx) (i j : Nat) (fd fr : List OV) (x : OV) (wr : World) : Prop where
 ne : j ≠ i
 f : RunAt bs i (.slice Af nf cf) (fd ++ fr)
 l : RunAt bs j (.slice Al nl cl) (pd ++ x :: pr)
 st : St w wr bs (fun W => OwnP w.heap.size (fd ++ fr) W ∧ OwnP w.heap.size (pd ++ x :: pr) W)
 gf : goodP (fd ++ fr)
 gl : goodP (pd ++ x :: pr)
 nf : (fd ++ fr).length = nf
 nl : (pd ++ x :: pr).length = nl
 eq : R = cin (fd.map (·.1)) (fr.map (·.1)) x.1
set_option maxRecDepth 100000 in
set_option maxHeartbeats 8000000 in
theorem cross_any (f l : List S41) (vf vl : Value) (w : World) (hG : GW w) (hf : RunC w vf f) (hl : RunC w vl l) (ff : fineRun f) (fl : fineRun l) : Calls Tryd.prog 35 #[vf, vl] w (RetRuns w (crossE f l)) := by
 obtain ⟨A, c, rfl, h1, h2⟩ := hf
 obtain ⟨B, d, rfl, h3, h4⟩ := hl
 have S := Aside0.mk (St.init w (F := fun _ => True) (fun _ _ => trivial))
 have HA := Aside0.mk (runC_mk h1 h2); have HB := Aside0.mk (runC_mk h3 h4)
 have HG := Aside0.mk hG
 have HF := Aside0.mk (show fineRun f ∧ fineRun l from ⟨ff, fl⟩)
 clear h1 h2 h3 h4 hG ff fl
 by_cases c1 : ownsE f = 0
 case neg =>
  have HM := Aside0.mk (show crossE f l = (([], []), ownsE f) from if_pos c1)
  have c1' : (ownsE f != 0) = true := bne_iff_ne.mpr c1
  clear c1
  go_enter Tryd.func35, Tryd.ntmps35
  go_wp2_with ((go_at_call 55; (with_reducible refine (owns_any f _ _ (GW.below HG.out S.out.below) (HA.out.below S.out.below) HF.out.1.2 HF.out.1.1).mono ?_); rintro e_ w7 ⟨rfl, hb⟩; replace S := Aside0.mk (S.out.step hb); clear hb))
  rw [HM.out]
  go_ret3
  exact ⟨_, _, rfl, runR_nil _ _, runR_nil _ _, S.out.below⟩
 by_cases c2 : ownsE l = 0
 case neg =>
  have HM := Aside0.mk (show crossE f l = (([], []), ownsE l) by unfold crossE; rw [if_neg (fun h => h c1), if_pos c2])
  have c1' : (ownsE f != 0) = false := bne_eq_false_iff_eq.mpr c1
  have c2' : (ownsE l != 0) = true := bne_iff_ne.mpr c2
  clear c1 c2
  go_enter Tryd.func35, Tryd.ntmps35
  go_wp2_with (first | (go_at_call 55; (with_reducible refine (owns_any f _ _ (GW.below HG.out S.out.below) (HA.out.below S.out.below) HF.out.1.2 HF.out.1.1).mono ?_); rintro e_ w7 ⟨rfl, hb⟩; replace S := Aside0.mk (S.out.step hb); clear hb) | (go_at_call 55; (with_reducible refine (owns_any l _ _ (GW.below HG.out S.out.below) (HB.out.below S.out.below) HF.out.2.2 HF.out.2.1).mono ?_); rintro e_ w7 ⟨rfl, hb⟩; replace S := Aside0.mk (S.out.step hb); clear hb))
  rw [HM.out]
  go_ret3
  exact ⟨_, _, rfl, runR_nil _ _, runR_nil _ _, S.out.below⟩
 have HR := Aside0.mk (show crossE f l = cout f [] l by unfold crossE; rw [if_neg (fun h => h c1), if_neg (fun h => h c2)])
 have HGD := Aside0.mk (show (∀ o ∈ f, Good o) ∧ ∀ o ∈ l, Good o from ⟨owns_good c1 HF.out.1.2, owns_good c2 HF.out.2.2⟩)
 have c1' : (ownsE f != 0) = false := bne_eq_false_iff_eq.mpr c1
 have c2' : (ownsE l != 0) = false := bne_eq_false_iff_eq.mpr c2
 clear c1 c2
 go_enter Tryd.func35, Tryd.ntmps35
 go_wp2_with (first | (go_at_call 55; (with_reducible refine (owns_any f _ _ (GW.below HG.out S.out.below) (HA.out.below S.out.below) HF.out.1.2 HF.out.1.1).mono ?_); rintro e_ w7 ⟨rfl, hb⟩; replace S := Aside0.mk (S.out.step hb); clear hb) | (go_at_call 55; (with_reducible refine (owns_any l _ _ (GW.below HG.out S.out.below) (HB.out.below S.out.below) HF.out.2.2 HF.out.2.1).mono ?_); rintro e_ w7 ⟨rfl, hb⟩; replace S := Aside0.mk (S.out.step hb); clear hb) | (go_at_call 61; (with_reducible refine (clones_any f _ _ (HA.out.below S.out.below) HF.out.1.2 HF.out.1.1).mono ?_); rintro e_ w7 ⟨u, rfl, hR, hb⟩; obtain ⟨pf, bs, _, i, hpf, _, _, RF, S'⟩ := S.out.addRun hb hR (i := 0) (u := .slice none 0 0) (q := []) (.inl ⟨rfl, rfl⟩); obtain ⟨Af, cf, rfl⟩ := RF.slice; replace S := Aside0.mk S'; clear S' hb hR; replace RF := Aside0.mk RF; replace hpf := Aside0.mk hpf) | (go_at_call 61; (with_reducible refine (clones_any l _ _ (HB.out.below S.out.below) HF.out.2.2 HF.out.2.1).mono ?_); rintro e_ w7 ⟨u, rfl, hR, hb⟩; obtain ⟨pl, bs2, i2, j, hpl, hne, RF2, RL, S'⟩ := S.out.addRun hb hR RF.out; obtain ⟨Al, cl, rfl⟩ := RL.slice; replace S := Aside0.mk S'; clear S' hb hR RF; replace RF := Aside0.mk RF2; clear RF2; replace RL := Aside0.mk RL; replace hpl := Aside0.mk hpl; replace hne := Aside0.mk hne))
 have H0 := Aside0.mk (CrossO.mk (R := crossE f l) (pd := []) hne.out RF.out RL.out (S.out.weak fun _ h => ⟨h.1.2, h.2⟩) (goodP_of hpf.out HGD.out.1) (goodP_of hpl.out HGD.out.2) rfl rfl (by rw [HR.out, hpf.out, hpl.out]; rfl))
 have HN := Aside0.mk (show pf.length ≤ 1048576 ∧ pl.length ≤ 1048576 by
  have h1 := congrArg List.length hpf.out
  have h2 := congrArg List.length hpl.out
  rw [List.length_map] at h1 h2
  exact ⟨h1 ▸ HF.out.1.1, h2 ▸ HF.out.2.1⟩)
 obtain ⟨nf, hnf⟩ : ∃ n, n = pf.length := ⟨_, rfl⟩
 obtain ⟨nl, hnl⟩ : ∃ n, n = pl.length := ⟨_, rfl⟩
 rw [← hnf, ← hnl] at H0
 rw [← hnf, ← hnl] at HN
 rw [← hnf, ← hnl]
 clear S RF RL hpf hpl hne HR HGD hnf hnl
 go_loopw [4, 5, 27] (fun v4 v5 i' wr => ∃ (bs : List Bx) (i j : Nat) (pf pd pr : List OV), v4 = .slice Af nf cf ∧ v5 = .slice Al nl cl ∧ i' = .int .i64 (pd.length : Int) ∧ Aside0 (CrossO w (crossE f l) Af Al cf cl nf nl bs i j pf pd pr wr)) (fun _ _ i' _ => nl - (intOf i').toNat)
 case atStart => exact ⟨_, _, _, _, _, _, rfl, rfl, rfl, H0⟩
 case round =>
  obtain ⟨bs, i, j, pf, pd, pr, rfl, rfl, rfl, HO⟩ := hrel
  have S := Aside0.mk HO.out.st
  cases pr with
  | nil =>
   have hk : pd.length = nl := by have := HO.out.nl; simpa using this
   have hd : ¬ pd.length < nl := by omega
   have HE := Aside0.mk (show crossE f l = ((pf.map (·.1), pd.map (·.1)), 0) from HO.out.eq)
   clear hk
   go_wp2_with (fail)
   go_ret3
   rw [HE.out]
   have hl := HO.out.l
   rw [List.append_nil] at hl
   have h2 := S.out.now.2
   rw [List.append_nil] at h2
   exact ⟨_, _, rfl, HO.out.f.R S.out S.out.now.1 (by rw [HO.out.nf]; exact HN.out.1), hl.R S.out h2 (by have := HO.out.nl; rw [List.append_nil] at this; rw [this]; exact HN.out.2), S.out.below⟩
  | cons x pr =>
   have hlt : pd.length < nl := by have := HO.out.nl; simp at this; omega
   have HNL := Aside0.mk (show pd.length < 1048576 ∧ pd.length < nl from ⟨by have := HN.out.2; omega, hlt⟩)
   obtain ⟨RIN, hRIN⟩ : ∃ R, R = cin [] (pf.map (·.1)) x.1 := ⟨_, rfl⟩
   have HEQ := Aside0.mk (show crossE f l = if RIN.2 ≠ 0 then (([], []), RIN.2) else cout RIN.1.1 (pd.map (·.1) ++ [RIN.1.2]) (pr.map (·.1)) by rw [HO.out.eq, hRIN]; rfl)
   have HI := Aside0.mk (CrossI.mk (fd := []) HO.out.ne HO.out.f HO.out.l HO.out.st HO.out.gf HO.out.gl HO.out.nf HO.out.nl hRIN)
   clear HO hRIN
   go_wp2_with (fail)
   go_loopw [4, 5, 32] (fun v4 v5 i' wr => ∃ (bs : List Bx) (i j : Nat) (fd fr : List OV) (x : OV), v4 = .slice Af nf cf ∧ v5 = .slice Al nl cl ∧ i' = .int .i64 (fd.length : Int) ∧ Aside0 (CrossI w RIN Af Al cf cl nf nl pd pr bs i j fd fr x wr)) (fun _ _ i' _ => nf - (intOf i').toNat)
   case atStart => exact ⟨_, _, _, _, _, _, rfl, rfl, rfl, HI⟩
   case round =>
    obtain ⟨bs, i, j, fd, fr, x, rfl, rfl, rfl, HI⟩ := hrel
    have S := Aside0.mk HI.out.st
    cases fr with
    | nil =>
     have hk : fd.length = nf := by have := HI.out.nf; simpa using this
     have hd2 : ¬ fd.length < nf := by omega
     clear hk
     go_wp2_with (fail)
     go_roundw
     case rel =>
      refine ⟨bs, i, j, fd, pd ++ [x], pr, rfl, rfl, by rw [List.length_append, List.length_singleton]; exact cnt_step HNL.out.1, ⟨?_⟩⟩
      have h := HI.out
      have e := h.eq
      simp only [List.map_nil, cin] at e
      have a1 : pd ++ x :: pr = (pd ++ [x]) ++ pr := by simp
      have a2 : fd ++ [] = fd := List.append_nil fd
      exact ⟨h.ne, a2 ▸ h.f, a1 ▸ h.l, a1 ▸ a2 ▸ h.st, a2 ▸ h.gf, a1 ▸ h.gl, a2 ▸ h.nf, a1 ▸ h.nl, by rw [HEQ.out, e, if_neg (by simp)]; simp⟩
     case measure => exact cnt_less HNL.out.1 HNL.out.2
    | cons y fr =>
     obtain ⟨o, vo⟩ := x
     obtain ⟨q, vq⟩ := y
     have hlt : fd.length < nf := by have := HI.out.nf; simp at this; omega
     have hlk : (fd.length : Int) < (nf : Int) := by omega
     have hlk2 : (pd.length : Int) < (nl : Int) := by have := HNL.out.2; omega
     have hz1 : (0 : Int) ≤ (fd.length : Int) := by omega
     have hz2 : (0 : Int) ≤ (pd.length : Int) := by omega
     obtain ⟨Ao, co, rfl⟩ : ∃ A c, vo = .slice A o.f3.length c := (S.out.now.2 (o, vo) (by simp)).slice
     obtain ⟨Aq, cq, rfl⟩ : ∃ A c, vq = .slice A q.f3.length c := (S.out.now.1 (q, vq) (by simp)).slice
     have HM := Aside0.mk (show (o, Value.slice Ao o.f3.length co) ∈ pd ++ (o, Value.slice Ao o.f3.length co) :: pr ∧ (q, Value.slice Aq q.f3.length cq) ∈ fd ++ (q, Value.slice Aq q.f3.length cq) :: fr by simp)
     have HGO := Aside0.mk (show Good o ∧ Good q from ⟨HI.out.gl _ HM.out.1, HI.out.gf _ HM.out.2⟩)
     have HNF := Aside0.mk (show fd.length < 1048576 ∧ fd.length < nf from ⟨by have := HN.out.1; omega, hlt⟩)
     have RF := Aside0.mk HI.out.f
     have RL := Aside0.mk HI.out.l
     have HNE := Aside0.mk (show i + 1 + 1 ≠ j + 1 + 1 by have := HI.out.ne; omega)
     obtain ⟨ga, _, rfl, hq1⟩ := RF.out.at_
     obtain ⟨gb, _, rfl, hq2⟩ := RL.out.at_
     clear hq1 hq2
     obtain ⟨ad, had⟩ : ∃ ad : Addr, ad = ⟨ga, 0, none⟩ := ⟨_, rfl⟩
     obtain ⟨ae, hae⟩ : ∃ ad : Addr, ad = ⟨gb, 0, none⟩ := ⟨_, rfl⟩
     rw [← had] at HI RF ⊢
     rw [← hae] at HI RL ⊢
     clear had hae
     by_cases z1 : (incE o q true).2 = 0
     case neg =>
      have z1' : ((incE o q true).2 != 0) = true := bne_iff_ne.mpr z1
      have HE := Aside0.mk (show crossE f l = (([], []), (incE o q true).2) by
       have e := HI.out.eq
       simp only [List.map_cons, cin] at e
       rw [if_pos z1] at e
       rw [HEQ.out, e, if_pos z1])
      clear z1
      go_wp2_with (fail)
      (refine rg_start (n := 12) (fun W => ∃ top : List Bx, St w W (top ++ bs) _) [] ⟨[], S.out⟩ (fun _ ⟨t, h⟩ => ⟨t, h.drew⟩) ?_; clear S; rintro _ ⟨top, S⟩; refine pu_ 0 ?_; refine pu_ 1 ?_; refine pu_ 2 ?_; refine le_ 3 (opA o (.slice Ao o.f3.length co)) ⟨top, S⟩ (fun _ ⟨t, h⟩ => (h.drop (List.sublist_append_right t bs)).atRun RL.out) ?_; refine pu_ 4 ?_; refine pu_ 5 ?_; refine pu_ 6 ?_; refine le_ 7 (opA q (.slice Aq q.f3.length cq)) ⟨top, S⟩ (fun _ ⟨t, h⟩ => (h.drop (List.sublist_append_right t bs)).atRun RF.out) ?_; replace S := S.drop (List.sublist_append_right top bs); clear top)
      refine re_ (rc_ 8 ?p8a (rc_ 9 ?p9a AllReadyL.nil))
      case' p8a =>
       intro K hK; refine kn_ 41 zA S ?_; intro _ _ S'; refine hK.out _ _ ⟨[_], S'⟩ (fun _ => ?_); clear hK S; have S := S'; clear S'; refine nr_ ?_
       refine re_ (rc_ 9 ?_ AllReadyL.nil)
       intro K hK; refine kn_ 41 zA S ?_; intro _ _ S'; refine hK.out _ _ ⟨[_, _], S'⟩ (fun _ => ?_); clear hK S; have S := S'; clear S'; refine nr_ ?_
       refine re_ (rc_ 10 ?_ AllReadyL.nil); intro K hK; refine ks_ 1 S ?_; intro _ S'; refine hK.out _ _ ⟨[_, _], S'⟩ (fun _ => ?_); clear hK S; have S := S'; clear S'
       refine re_ (rc_ 11 ?_ AllReadyL.nil); intro K hK; refine ks_ 0 S ?_; intro _ S'; refine hK.out _ _ ⟨[_, _], S'⟩ (fun _ => ?_); clear hK S; have S := S'; clear S'
      case' p9a =>
       intro K hK; refine kn_ 41 zA S ?_; intro _ _ S'; refine hK.out _ _ ⟨[_], S'⟩ (fun _ => ?_); clear hK S; have S := S'; clear S'; refine nr_ ?_
       refine re_ (rc_ 8 ?_ AllReadyL.nil)
       intro K hK; refine kn_ 41 zA S ?_; intro _ _ S'; refine hK.out _ _ ⟨[_, _], S'⟩ (fun _ => ?_); clear hK S; have S := S'; clear S'; refine nr_ ?_
       refine re_ (rc_ 10 ?_ AllReadyL.nil); intro K hK; refine ks_ 0 S ?_; intro _ S'; refine hK.out _ _ ⟨[_, _], S'⟩ (fun _ => ?_); clear hK S; have S := S'; clear S'
       refine re_ (rc_ 11 ?_ AllReadyL.nil); intro K hK; refine ks_ 1 S ?_; intro _ S'; refine hK.out _ _ ⟨[_, _], S'⟩ (fun _ => ?_); clear hK S; have S := S'; clear S'
      all_goals
       refine done_ (by kernel_rfl) ?_
       replace S := Aside0.mk S
       go_wp2_with (first | ((with_reducible refine gate_load rfl ?_); refine ev_load S ?_) | (go_at_call 56; (with_reducible refine (incE_prog o q true _ _ _ (GW.below HG.out S.out.below) (S.out.now.2 _ HM.out.1).C (S.out.now.1 _ HM.out.2).C HGO.out.1 HGO.out.2).mono ?_); rintro e_ w7 ⟨v, rfl, hR, hb⟩; obtain ⟨Ai, ci, rfl⟩ := hR.slice; replace S := Aside0.mk (S.out.addOp hb hR); clear hb hR) | ((with_reducible refine gate_st rfl ?_); refine ev_put S (Aside0.mk ((RL.out.cons _).cons _)) ((incE o q true).1, .slice Ai (incE o q true).1.f3.length ci) ?_; clear S; intro _ B S RL2 hoth))
       rw [HE.out]
       go_ret3
       exact ⟨_, _, rfl, runR_nil _ _, runR_nil _ _, S.out.below⟩
     by_cases z2 : (incE q o false).2 = 0
     case neg =>
      have z1' : ((incE o q true).2 != 0) = false := bne_eq_false_iff_eq.mpr z1
      have z2' : ((incE q o false).2 != 0) = true := bne_iff_ne.mpr z2
      have HE := Aside0.mk (show crossE f l = (([], []), (incE q o false).2) by
       have e := HI.out.eq
       simp only [List.map_cons, cin] at e
       rw [if_neg (fun h => h z1), if_pos z2] at e
       rw [HEQ.out, e, if_pos z2])
      clear z1 z2
      go_wp2_with (fail)
      (refine rg_start (n := 12) (fun W => ∃ top : List Bx, St w W (top ++ bs) _) [] ⟨[], S.out⟩ (fun _ ⟨t, h⟩ => ⟨t, h.drew⟩) ?_; clear S; rintro _ ⟨top, S⟩; refine pu_ 0 ?_; refine pu_ 1 ?_; refine pu_ 2 ?_; refine le_ 3 (opA o (.slice Ao o.f3.length co)) ⟨top, S⟩ (fun _ ⟨t, h⟩ => (h.drop (List.sublist_append_right t bs)).atRun RL.out) ?_; refine pu_ 4 ?_; refine pu_ 5 ?_; refine pu_ 6 ?_; refine le_ 7 (opA q (.slice Aq q.f3.length cq)) ⟨top, S⟩ (fun _ ⟨t, h⟩ => (h.drop (List.sublist_append_right t bs)).atRun RF.out) ?_; replace S := S.drop (List.sublist_append_right top bs); clear top)
      refine re_ (rc_ 8 ?p8b (rc_ 9 ?p9b AllReadyL.nil))
      case' p8b =>
       intro K hK; refine kn_ 41 zA S ?_; intro _ _ S'; refine hK.out _ _ ⟨[_], S'⟩ (fun _ => ?_); clear hK S; have S := S'; clear S'; refine nr_ ?_
       refine re_ (rc_ 9 ?_ AllReadyL.nil)
       intro K hK; refine kn_ 41 zA S ?_; intro _ _ S'; refine hK.out _ _ ⟨[_, _], S'⟩ (fun _ => ?_); clear hK S; have S := S'; clear S'; refine nr_ ?_
       refine re_ (rc_ 10 ?_ AllReadyL.nil); intro K hK; refine ks_ 1 S ?_; intro _ S'; refine hK.out _ _ ⟨[_, _], S'⟩ (fun _ => ?_); clear hK S; have S := S'; clear S'
       refine re_ (rc_ 11 ?_ AllReadyL.nil); intro K hK; refine ks_ 0 S ?_; intro _ S'; refine hK.out _ _ ⟨[_, _], S'⟩ (fun _ => ?_); clear hK S; have S := S'; clear S'
      case' p9b =>
       intro K hK; refine kn_ 41 zA S ?_; intro _ _ S'; refine hK.out _ _ ⟨[_], S'⟩ (fun _ => ?_); clear hK S; have S := S'; clear S'; refine nr_ ?_
       refine re_ (rc_ 8 ?_ AllReadyL.nil)
       intro K hK; refine kn_ 41 zA S ?_; intro _ _ S'; refine hK.out _ _ ⟨[_, _], S'⟩ (fun _ => ?_); clear hK S; have S := S'; clear S'; refine nr_ ?_
       refine re_ (rc_ 10 ?_ AllReadyL.nil); intro K hK; refine ks_ 0 S ?_; intro _ S'; refine hK.out _ _ ⟨[_, _], S'⟩ (fun _ => ?_); clear hK S; have S := S'; clear S'
       refine re_ (rc_ 11 ?_ AllReadyL.nil); intro K hK; refine ks_ 1 S ?_; intro _ S'; refine hK.out _ _ ⟨[_, _], S'⟩ (fun _ => ?_); clear hK S; have S := S'; clear S'
      all_goals
       refine done_ (by kernel_rfl) ?_
       replace S := Aside0.mk S
       go_wp2_with (first | ((with_reducible refine gate_load rfl ?_); refine ev_load S ?_) | (go_at_call 56; (with_reducible refine (incE_prog o q true _ _ _ (GW.below HG.out S.out.below) (S.out.now.2 _ HM.out.1).C (S.out.now.1 _ HM.out.2).C HGO.out.1 HGO.out.2).mono ?_); rintro e_ w7 ⟨v, rfl, hR, hb⟩; obtain ⟨Ai, ci, rfl⟩ := hR.slice; replace S := Aside0.mk (S.out.addOp hb hR); clear hb hR) | ((with_reducible refine gate_st rfl ?_); refine ev_put S (Aside0.mk ((RL.out.cons _).cons _)) ((incE o q true).1, .slice Ai (incE o q true).1.f3.length ci) ?_; clear S; intro _ B S RL2 hoth) | (go_at_call 56; (with_reducible refine (incE_prog q o false _ _ _ (GW.below HG.out S.out.below) (S.out.now.1.1 _ HM.out.2).C (S.out.now.1.2 _ HM.out.1).C HGO.out.2 HGO.out.1).mono ?_); rintro e_ w7 ⟨v, rfl, hR, hb⟩; obtain ⟨Aj, cj, rfl⟩ := hR.slice; replace S := Aside0.mk (S.out.addOp hb hR); clear hb hR) | ((with_reducible refine gate_st rfl ?_); refine ev_put S (Aside0.mk (hoth _ _ _ HNE.out ((RF.out.cons _).cons _))) ((incE q o false).1, .slice Aj (incE q o false).1.f3.length cj) ?_; clear S; intro _ B2 S RF2 hoth2))
       rw [HE.out]
       go_ret3
       exact ⟨_, _, rfl, runR_nil _ _, runR_nil _ _, S.out.below⟩
     have z1' : ((incE o q true).2 != 0) = false := bne_eq_false_iff_eq.mpr z1
     have z2' : ((incE q o false).2 != 0) = false := bne_eq_false_iff_eq.mpr z2
     have HE := Aside0.mk (show RIN = cin ((fd ++ [((incE q o false).1, Value.slice none 0 0)]).map (·.1)) (fr.map (·.1)) (incE o q true).1 by
      have e := HI.out.eq
      simp only [List.map_cons, cin] at e
      rw [if_neg (fun h => h z1), if_neg (fun h => h z2)] at e
      rw [e]; simp)
     have HGI := Aside0.mk (show Good (incE o q true).1 ∧ Good (incE q o false).1 from ⟨inc_good HGO.out.1 HGO.out.2 z1, inc_good HGO.out.2 HGO.out.1 z2⟩)
     clear z1 z2
     go_wp2_with (fail)
     (refine rg_start (n := 12) (fun W => ∃ top : List Bx, St w W (top ++ bs) _) [] ⟨[], S.out⟩ (fun _ ⟨t, h⟩ => ⟨t, h.drew⟩) ?_; clear S; rintro _ ⟨top, S⟩; refine pu_ 0 ?_; refine pu_ 1 ?_; refine pu_ 2 ?_; refine le_ 3 (opA o (.slice Ao o.f3.length co)) ⟨top, S⟩ (fun _ ⟨t, h⟩ => (h.drop (List.sublist_append_right t bs)).atRun RL.out) ?_; refine pu_ 4 ?_; refine pu_ 5 ?_; refine pu_ 6 ?_; refine le_ 7 (opA q (.slice Aq q.f3.length cq)) ⟨top, S⟩ (fun _ ⟨t, h⟩ => (h.drop (List.sublist_append_right t bs)).atRun RF.out) ?_; replace S := S.drop (List.sublist_append_right top bs); clear top)
     refine re_ (rc_ 8 ?p8c (rc_ 9 ?p9c AllReadyL.nil))
     case' p8c =>
      intro K hK; refine kn_ 41 zA S ?_; intro _ _ S'; refine hK.out _ _ ⟨[_], S'⟩ (fun _ => ?_); clear hK S; have S := S'; clear S'; refine nr_ ?_
      refine re_ (rc_ 9 ?_ AllReadyL.nil)
      intro K hK; refine kn_ 41 zA S ?_; intro _ _ S'; refine hK.out _ _ ⟨[_, _], S'⟩ (fun _ => ?_); clear hK S; have S := S'; clear S'; refine nr_ ?_
      refine re_ (rc_ 10 ?_ AllReadyL.nil); intro K hK; refine ks_ 1 S ?_; intro _ S'; refine hK.out _ _ ⟨[_, _], S'⟩ (fun _ => ?_); clear hK S; have S := S'; clear S'
      refine re_ (rc_ 11 ?_ AllReadyL.nil); intro K hK; refine ks_ 0 S ?_; intro _ S'; refine hK.out _ _ ⟨[_, _], S'⟩ (fun _ => ?_); clear hK S; have S := S'; clear S'
     case' p9c =>
      intro K hK; refine kn_ 41 zA S ?_; intro _ _ S'; refine hK.out _ _ ⟨[_], S'⟩ (fun _ => ?_); clear hK S; have S := S'; clear S'; refine nr_ ?_
      refine re_ (rc_ 8 ?_ AllReadyL.nil)
      intro K hK; refine kn_ 41 zA S ?_; intro _ _ S'; refine hK.out _ _ ⟨[_, _], S'⟩ (fun _ => ?_); clear hK S; have S := S'; clear S'; refine nr_ ?_
      refine re_ (rc_ 10 ?_ AllReadyL.nil); intro K hK; refine ks_ 0 S ?_; intro _ S'; refine hK.out _ _ ⟨[_, _], S'⟩ (fun _ => ?_); clear hK S; have S := S'; clear S'
      refine re_ (rc_ 11 ?_ AllReadyL.nil); intro K hK; refine ks_ 1 S ?_; intro _ S'; refine hK.out _ _ ⟨[_, _], S'⟩ (fun _ => ?_); clear hK S; have S := S'; clear S'
     all_goals
      refine done_ (by kernel_rfl) ?_
      replace S := Aside0.mk S
      go_wp2_with (first | ((with_reducible refine gate_load rfl ?_); refine ev_load S ?_) | (go_at_call 56; (with_reducible refine (incE_prog o q true _ _ _ (GW.below HG.out S.out.below) (S.out.now.2 _ HM.out.1).C (S.out.now.1 _ HM.out.2).C HGO.out.1 HGO.out.2).mono ?_); rintro e_ w7 ⟨v, rfl, hR, hb⟩; obtain ⟨Ai, ci, rfl⟩ := hR.slice; replace S := Aside0.mk (S.out.addOp hb hR); clear hb hR) | ((with_reducible refine gate_st rfl ?_); refine ev_put S (Aside0.mk ((RL.out.cons _).cons _)) ((incE o q true).1, .slice Ai (incE o q true).1.f3.length ci) ?_; clear S; intro _ B S RL2 hoth) | (go_at_call 56; (with_reducible refine (incE_prog q o false _ _ _ (GW.below HG.out S.out.below) (S.out.now.1.1 _ HM.out.2).C (S.out.now.1.2 _ HM.out.1).C HGO.out.2 HGO.out.1).mono ?_); rintro e_ w7 ⟨v, rfl, hR, hb⟩; obtain ⟨Aj, cj, rfl⟩ := hR.slice; replace S := Aside0.mk (S.out.addOp hb hR); clear hb hR) | ((with_reducible refine gate_st rfl ?_); refine ev_put S (Aside0.mk (hoth _ _ _ HNE.out ((RF.out.cons _).cons _))) ((incE q o false).1, .slice Aj (incE q o false).1.f3.length cj) ?_; clear S; intro _ B2 S RF2 hoth2))
      go_roundw
      case rel =>
       refine ⟨(bs.set j B).set i B2, i, j, fd ++ [((incE q o false).1, .slice Aj (incE q o false).1.f3.length cj)], fr, ((incE o q true).1, .slice Ai (incE o q true).1.f3.length ci), rfl, rfl, by rw [List.length_append, List.length_singleton]; exact cnt_step HNF.out.1, ⟨?_⟩⟩
       have h := HI.out
       have a1 : ∀ z : OV, (fd ++ [z]) ++ fr = fd ++ z :: fr := by simp
       have hnf := h.nf
       have hnl := h.nl
       refine ⟨h.ne, ?_, ?_, ?_, ?_, goodP_put h.gl HGI.out.1, ?_, ?_, by rw [HE.out]; simp⟩
       · rw [a1]; exact RF2.out.tail.tail
       · exact (hoth2 _ _ _ (Ne.symm HNE.out) RL2.out).tail.tail
       · rw [a1]; exact (S.out.drop (bs' := (bs.set j B).set i B2) ((List.sublist_cons_self _ _).trans (List.sublist_cons_self _ _))).weak fun _ h => ⟨ownP_put h.1.1.1 h.2, ownP_put h.1.1.2 h.1.2⟩
       · rw [a1]; exact goodP_put h.gf HGI.out.2
       · rw [a1]; simpa using hnf
       · simpa using hnl
      case measure => exact cnt_less HNF.out.1 HNF.out.2
end Go.Proofs.YtloccjkcmlkifaaDoor
end
