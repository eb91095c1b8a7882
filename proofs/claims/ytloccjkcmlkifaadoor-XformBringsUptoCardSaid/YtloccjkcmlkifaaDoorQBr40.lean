/- XformBrings_card, part 40. -/
import Derived.Test.YtloccjkcmlkifaaDoorQBr39
import Derived.Test.YtloccjkcmlkifaaDoorQBr25
import Derived.Test.YtloccjkcmlkifaaDoorQBr30
import Derived.Test.YtloccjkcmlkifaaDoorQBr37
import Derived.Test.YtloccjkcmlkifaaDoorQBr35
import Derived.Test.YtloccjkcmlkifaaDoorQBr27

section
/- The document's include, told of whole operations: it answers as the program's. -/
namespace Go.Proofs.YtloccjkcmlkifaaDoor
open Go.RowKit Go.Proofs.YtloccjkcmlkifaaDoor.PAll Go.Proofs.YtloccjkcmlkifaaDoorW.PrintWords Go.Proofs.YtloccjkcmlkifaaDoorW.PrintLast

theorem context_any (w : World) : Calls Tryd.prog 104 #[] w fun e w' => ∃ v, e = .returned v ∧ (∃ A c, v = .slice A 1 c ∧ 1 ≤ c) ∧ Kd.R k154 154 w' w.heap.size (fun _ => True) v [(⟨0, 0, 2097152⟩ : S154)] ∧ Below w.heap.size w w' :=
 (redraftref05_context.calls [(⟨0, 0, 2097152⟩ : S154)] w rfl).mono fun e w' ⟨v, he, hr, hb⟩ => by
  obtain ⟨A, c, e1, h1, _⟩ := Kd.R_reads hr
  exact ⟨v, he, ⟨A, c, e1, h1⟩, hr, hb⟩
def RowC (w : World) (v : Value) (l : List S154) : Prop := ∃ A c, v = .slice A l.length c ∧ l.length ≤ c ∧ k154.C w A l.length l
theorem rowC_of {w : World} {base : Nat} {v : Value} {l : List S154} (h : Kd.R k154 154 w base (fun _ => True) v l) : RowC w v l := Kd.R_reads h
theorem with_any (row l : List S154) (k : Nat) (vr : Value) (who p n : Int) (w : World) (hr : RowC w vr row) (h : redraftref05_with.f k row who p n = some l) :
 Calls Tryd.prog 103 #[vr, .int .i64 who, .int .i64 p, .int .i64 n] w fun e w' => ∃ v, e = .returned v ∧ Kd.R k154 154 w' w.heap.size (fun _ => True) v l ∧ Below w.heap.size w w' := by
 obtain ⟨A, c, rfl, h1, h2⟩ := hr
 exact redraftref05_with.calls k A c row who p n l w h2 h1 h
theorem place_any (row : List S154) (k : Nat) (vr : Value) (who x r : Int) (w : World) (hr : RowC w vr row) (h : redraftref05_place.f k row who x = some r) :
 Calls Tryd.prog 106 #[vr, .int .i64 who, .int .i64 x] w fun e w' => e = .returned (.int .i64 r) ∧ Below w.heap.size w w' := by
 obtain ⟨A, c, rfl, h1, h2⟩ := hr
 exact redraftref05_place.calls k A c row who x r w h2 h1 h
theorem found_any (row row2 : List S154) (l r : List S94) (q : Int) (k : Nat) (vr vr2 : Value) (A : Option Addr) (c : Nat) (w : World) (hr : RowC w vr row) (hr2 : RowC w vr2 row2) (h1 : l.length ≤ c) (h2 : k94.C w A l.length l) (h : redraftref05_found.f k row row2 l = some (r, q)) :
 Calls Tryd.prog 110 #[vr, vr2, .slice A l.length c] w fun e w' => ∃ v, e = .returned (.tuple #[v, .int .i64 q]) ∧ Kd.R k94 94 w' w.heap.size (fun _ => True) v r ∧ Below w.heap.size w w' := by
 obtain ⟨A1, c1, rfl, g1, g2⟩ := hr
 obtain ⟨A2, c2, rfl, g3, g4⟩ := hr2
 exact redraftref05_found.calls k A1 c1 row A2 c2 row2 A c l r q w g2 g1 g4 g3 h2 h1 h
abbrev ctx0 : List S154 := [(⟨0, 0, 2097152⟩ : S154)]

theorem place_in (k : Nat) (who p n : Int) (hw : who ≠ 0) (h0 : 0 ≤ p) (h1 : p ≤ 1048576) (hn : 1 ≤ n ∧ n ≤ 1048576) : redraftref05_place.f (k + 4) (ctxWith who p n) who 0 = some p := by
 unfold redraftref05_place.f
 rw [show (0 : Int) = ((0 : Nat) : Int) from rfl]
 by_cases h : p > 0
 · have hc : ctxWith who p n = [⟨0, 0, p⟩, ⟨who, 0, n⟩, ⟨0, p, 2097152⟩] := by unfold ctxWith; rw [if_pos h]; rfl
   rw [hc, show k + 4 = (k + 3) + 1 from rfl, place_step (k + 3) _ _ _ _ 0 (by simp) (by simp) ⟨0, 0, p⟩ rfl (by simp; omega), if_neg (fun h => hw h.1.symm)]
   simp only
   rw [show k + 3 = (k + 2) + 1 from rfl, place_step (k + 2) _ _ _ _ 1 (by simp) (by simp) ⟨who, 0, n⟩ rfl (by simp; omega), if_pos ⟨rfl, by simp, by show ((0 : Nat) : Int) < n; omega⟩]
   congr 1
   show ((0 : Nat) : Int) + p - 0 + ((0 : Nat) : Int) - 0 = p
   omega
 · obtain rfl : p = 0 := by omega
   have hc : ctxWith who 0 n = [⟨who, 0, n⟩, ⟨0, 0, 2097152⟩] := rfl
   rw [hc, show k + 4 = (k + 3) + 1 from rfl, place_step (k + 3) _ _ _ _ 0 (by simp) (by simp) ⟨who, 0, n⟩ rfl (by simp; omega), if_pos ⟨rfl, by simp, by show ((0 : Nat) : Int) < n; omega⟩]
   rfl
attribute [local go_sem high] eqA35 idx35_0 idx35_1
set_option maxRecDepth 100000 in
set_option maxHeartbeats 8000000 in
theorem rinclude_any (a b : S41) (e : Bool) (va vb : Value) (r : List S94 × Int) (w : World) (ha : OpC w va a) (hb : OpC w vb b) (fa : Fit a) (fb : Fit b) (na : fineOp a) (nb : fineOp b) (oa : ownE a = 0) (ob : ownE b = 0)
 (e3 : a.f0.f1 = 1 → a.f3 = []) (em : a.f0.f1 = 1 → moveE a a.f1 = (a, 0))
 (hr : a.f0.f1 = 2 ∨ a.f0.f1 = 3 → b.f0.f1 = 1 → ∃ k l q, redraftref05_found.f k ctx0 (ctxWith 2 b.f1 (wid b)) a.f3 = some (l, q) ∧ l.length ≤ 4611686018427387904 ∧ covE a l = rangedE a r) :
 Calls Tryd.prog 96 #[.agg (opA a va), .agg (opA b vb), .bool e] w (RetOp w (incP a b e r)) := by
 obtain ⟨A, c, rfl, h1, h2⟩ := ha
 obtain ⟨B, d, rfl, h3, h4⟩ := hb
 have S := Aside0.mk (St.init w (F := fun _ => True) (fun _ _ => trivial))
 have H1 := Aside0.mk h1; have H2 := Aside0.mk h2
 have HA := Aside0.mk (opC_mk h1 h2); have HB := Aside0.mk (opC_mk h3 h4)
 have HF := Aside0.mk (show fineOp a ∧ fineOp b ∧ ownE b = 0 from ⟨na, nb, ob⟩)
 have ka := own_ok oa
 clear h1 h2 h3 h4
 unfold incP
 by_cases hcl : clashB a b = true
 · rw [if_pos hcl]
   have HC := Aside0.mk hcl
   clear hcl hr e3 em ka
   go_enter Tryd.func96, Tryd.ntmps96
   go_wp2_with (first | ((with_reducible refine gate_box rfl ?_); refine ev_box S ?_; clear S; intro _ _ S) | ((with_reducible refine gate_new rfl ?_); refine ev_new S 41 zA ?_; clear S; intro _ _ S) | ((with_reducible refine gate_load rfl ?_); first | refine ev_load S ?_ | refine ev_fld S ?_) | ((with_reducible refine gate_st rfl ?_); refine ev_store S ?_; clear S; intro _ S) | (go_at_call 108; (with_reducible refine (isC_any a b _ _ HC.out).mono ?_); rintro e w7 ⟨rfl, hb⟩; replace S := Aside0.mk (S.out.step hb); clear hb))
   exact bodyPost_ret (results_ct rfl _ _ _ 41 zA (0, 0) _ rfl (S.out.at_ 0 rfl) Tryd.underlying41 rfl (by kernel_rfl)) rfl ⟨.slice none 0 0, rfl, opR_nil _ _, S.out.below⟩
 rw [if_neg hcl]
 have HC : Aside0 (clashB a b = false) := ⟨by simpa using hcl⟩
 clear hcl
 by_cases hk : b.f0.f1 = 1
 case neg =>
  rw [if_pos hk]
  have hk' : (b.f0.f1 != 1) = true := bne_iff_ne.mpr hk
  clear hk hr e3 em ka
  go_enter Tryd.func96, Tryd.ntmps96
  go_wp2_with (first | ((with_reducible refine gate_box rfl ?_); refine ev_box S ?_; clear S; intro _ _ S) | ((with_reducible refine gate_new rfl ?_); refine ev_new S 41 zA ?_; clear S; intro _ _ S) | ((with_reducible refine gate_load rfl ?_); first | refine ev_load S ?_ | refine ev_fld S ?_) | ((with_reducible refine gate_st rfl ?_); refine ev_store S ?_; clear S; intro _ S) | (go_at_call 108; (with_reducible refine (isC_any a b _ _ HC.out).mono ?_); rintro e w7 ⟨rfl, hb⟩; replace S := Aside0.mk (S.out.step hb); clear hb) | (go_at_call 22; (with_reducible refine (rcopy_any a _ _ (HA.out.below S.out.below) HF.out.1).mono ?_); rintro e w7 ⟨v, rfl, hR, hb⟩; obtain ⟨Ao, co, rfl⟩ := hR.slice; replace S := Aside0.mk (S.out.addOp hb hR); clear hb hR))
  exact bodyPost_ret (results_ct rfl _ _ _ 41 _ (0, 0) _ rfl (S.out.at_ 0 rfl) Tryd.underlying41 rfl (by kernel_rfl)) rfl ⟨_, rfl, S.out.now.2, S.out.below⟩
 rw [if_neg (show ¬ b.f0.f1 ≠ 1 from fun h => h hk)]
 have hk' : (b.f0.f1 != 1) = false := bne_eq_false_iff_eq.mpr hk
 have hbi := own_ins ob nb.1 hk
 have hwb : wid b = (chk b.f2).1 := if_pos hk
 have HW := Aside0.mk (with_ctx 0 2 b.f1 (wid b) hbi.1 hbi.2.1)
 by_cases k1 : a.f0.f1 = 1
 · rw [if_pos k1]
   have k4' : (a.f0.f1 == 4) = false := by simp [k1]
   have k1' : (a.f0.f1 == 1) = true := by simp [k1]
   have hpl := place_ctx 0 2 b.f1 (wid b) a.f1 (by omega) hbi.1 hbi.2.1 ⟨by have := fb.wid; omega, fb.wid.2⟩ fa.at_.1 fa.at_.2
   have hpi := place_in 0 2 b.f1 (wid b) (by omega) hbi.1 hbi.2.1 ⟨by omega, fb.wid.2⟩
   have HM0 : ∀ p : Int, 0 ≤ p → p ≤ 4194304 → Aside0 (ownE a = 0 ∧ a.f3 = [] ∧ (0 ≤ p ∧ p ≤ 4194304) ∧ (0 ≤ wid a ∧ wid a ≤ 1048576)) := fun p h1 h2 => ⟨oa, e3 k1, ⟨h1, h2⟩, fa.wid⟩
   have hem := em k1
   have fat := fa.at_
   have fbw := fb.wid
   clear hr e3 em ka hk k1
   by_cases hlt : b.f1 < a.f1
   · rw [if_pos (.inl hlt)]
     rw [if_neg (show ¬ a.f1 < b.f1 by omega)] at hpl
     have HP := Aside0.mk hpl
     have HM := HM0 (a.f1 + wid b) (by omega) (by omega)
     have q1 : (a.f1 == b.f1) = false := beq_eq_false_iff_ne.mpr (by omega)
     clear hpl hpi HM0 hem fat fbw hlt hbi hwb
     go_enter Tryd.func96, Tryd.ntmps96
     go_wp2_with (first | ((with_reducible refine gate_box rfl ?_); refine ev_box S ?_; clear S; intro _ _ S) | ((with_reducible refine gate_new rfl ?_); refine ev_new S 41 zA ?_; clear S; intro _ _ S) | ((with_reducible refine gate_load rfl ?_); first | refine ev_load S ?_ | refine ev_fld S ?_) | (go_at_call 108; (with_reducible refine (isC_any a b _ _ HC.out).mono ?_); rintro e w7 ⟨rfl, hb⟩; replace S := Aside0.mk (S.out.step hb); clear hb) | (go_at_call 105; (with_reducible refine (rwidth_any b _ _ (HB.out.below S.out.below) HF.out.2.1 HF.out.2.2).mono ?_); rintro e w7 ⟨rfl, hb⟩; replace S := Aside0.mk (S.out.step hb); clear hb))
     (refine rg_start (n := 6) (fun W => St w W _ _) [] S.out (fun _ h => h.drew) ?_; clear S; intro _ S; refine pu_ 1 ?_; refine fl_ 2 1 S ?_; refine pu_ 3 ?_; refine cl_ 0 #[] ?_ Tryd.func104; refine (context_any _).mono ?_; rintro e w7 ⟨v, rfl, ⟨Ar, cr, rfl, _⟩, hR, hb⟩; refine ⟨_, rfl, S.step hb, fun _ => ?_⟩; have S' := S.addR hb hR; clear S hb hR; have S := S'; clear S'; refine nr_ ?_; refine cl_ 4 #[.slice Ar 1 cr, .int .i64 2, .int .i64 b.f1, .int .i64 (wid b)] ?_ Tryd.func103; refine (with_any ctx0 _ _ _ 2 b.f1 (wid b) _ (rowC_of S.now.2) HW.out).mono ?_; rintro e w7 ⟨v, rfl, hR, hb⟩; obtain ⟨Aw, cw, rfl⟩ := Kd.R_slice hR; refine ⟨_, rfl, (S.step hb).weak (fun _ h => h.1), fun _ => ?_⟩; have S' := (S.weak (fun _ h => h.1)).addR hb hR; clear S hb hR; have S := S'; clear S'; refine nr_ ?_; refine pu_ 5 ?_; refine done_ (by kernel_rfl) ?_; have S := Aside0.mk S)
     go_wp2_with (first | ((with_reducible refine gate_load rfl ?_); first | refine ev_load S ?_ | refine ev_fld S ?_) | ((with_reducible refine gate_st rfl ?_); refine ev_store S ?_; clear S; intro _ S) | (go_at_call 106; (with_reducible refine (place_any _ _ _ _ _ _ _ (rowC_of S.out.now.2) HP.out).mono ?_); rintro e w7 ⟨rfl, hb⟩; replace S := Aside0.mk (S.out.step hb); clear hb) | (go_at_call 109; (with_reducible refine (rmoved_any a _ _ _ (HA.out.below S.out.below) HF.out.1 HM.out.1 HM.out.2.1 HM.out.2.2.1 HM.out.2.2.2).mono ?_); rintro e w7 ⟨v, rfl, hR, hb⟩; obtain ⟨Ai, ci, rfl⟩ := hR.slice; replace S := Aside0.mk (S.out.addOp hb hR); clear hb hR))
     exact bodyPost_ret (results_ct rfl _ _ _ 41 _ (0, 0) _ rfl (S.out.at_ 0 rfl) Tryd.underlying41 rfl (by kernel_rfl)) rfl ⟨_, rfl, S.out.now.2, S.out.below⟩
   · by_cases heq : a.f1 = b.f1
     · have q1 : (a.f1 == b.f1) = true := beq_iff_eq.mpr heq
       rw [if_neg (show ¬ a.f1 < b.f1 by omega)] at hpl
       have HP := Aside0.mk hpl
       cases e with
       | true =>
        rw [if_pos (.inr ⟨heq.symm, rfl⟩)]
        have HM := HM0 (a.f1 + wid b) (by omega) (by omega)
        clear hpl hpi HM0 hem fat fbw hlt hbi hwb heq
        go_enter Tryd.func96, Tryd.ntmps96
        go_wp2_with (first | ((with_reducible refine gate_box rfl ?_); refine ev_box S ?_; clear S; intro _ _ S) | ((with_reducible refine gate_new rfl ?_); refine ev_new S 41 zA ?_; clear S; intro _ _ S) | ((with_reducible refine gate_load rfl ?_); first | refine ev_load S ?_ | refine ev_fld S ?_) | (go_at_call 108; (with_reducible refine (isC_any a b _ _ HC.out).mono ?_); rintro e w7 ⟨rfl, hb⟩; replace S := Aside0.mk (S.out.step hb); clear hb) | (go_at_call 105; (with_reducible refine (rwidth_any b _ _ (HB.out.below S.out.below) HF.out.2.1 HF.out.2.2).mono ?_); rintro e w7 ⟨rfl, hb⟩; replace S := Aside0.mk (S.out.step hb); clear hb))
        (refine rg_start (n := 6) (fun W => St w W _ _) [] S.out (fun _ h => h.drew) ?_; clear S; intro _ S; refine pu_ 1 ?_; refine fl_ 2 1 S ?_; refine pu_ 3 ?_; refine cl_ 0 #[] ?_ Tryd.func104; refine (context_any _).mono ?_; rintro e w7 ⟨v, rfl, ⟨Ar, cr, rfl, _⟩, hR, hb⟩; refine ⟨_, rfl, S.step hb, fun _ => ?_⟩; have S' := S.addR hb hR; clear S hb hR; have S := S'; clear S'; refine nr_ ?_; refine cl_ 4 #[.slice Ar 1 cr, .int .i64 2, .int .i64 b.f1, .int .i64 (wid b)] ?_ Tryd.func103; refine (with_any ctx0 _ _ _ 2 b.f1 (wid b) _ (rowC_of S.now.2) HW.out).mono ?_; rintro e w7 ⟨v, rfl, hR, hb⟩; obtain ⟨Aw, cw, rfl⟩ := Kd.R_slice hR; refine ⟨_, rfl, (S.step hb).weak (fun _ h => h.1), fun _ => ?_⟩; have S' := (S.weak (fun _ h => h.1)).addR hb hR; clear S hb hR; have S := S'; clear S'; refine nr_ ?_; refine pu_ 5 ?_; refine done_ (by kernel_rfl) ?_; have S := Aside0.mk S)
        go_wp2_with (first | ((with_reducible refine gate_load rfl ?_); first | refine ev_load S ?_ | refine ev_fld S ?_) | ((with_reducible refine gate_st rfl ?_); refine ev_store S ?_; clear S; intro _ S) | (go_at_call 106; (with_reducible refine (place_any _ _ _ _ _ _ _ (rowC_of S.out.now.2) HP.out).mono ?_); rintro e w7 ⟨rfl, hb⟩; replace S := Aside0.mk (S.out.step hb); clear hb) | (go_at_call 109; (with_reducible refine (rmoved_any a _ _ _ (HA.out.below S.out.below) HF.out.1 HM.out.1 HM.out.2.1 HM.out.2.2.1 HM.out.2.2.2).mono ?_); rintro e w7 ⟨v, rfl, hR, hb⟩; obtain ⟨Ai, ci, rfl⟩ := hR.slice; replace S := Aside0.mk (S.out.addOp hb hR); clear hb hR))
        exact bodyPost_ret (results_ct rfl _ _ _ 41 _ (0, 0) _ rfl (S.out.at_ 0 rfl) Tryd.underlying41 rfl (by kernel_rfl)) rfl ⟨_, rfl, S.out.now.2, S.out.below⟩
       | false =>
        rw [if_neg (show ¬ (b.f1 < a.f1 ∨ b.f1 = a.f1 ∧ false = true) from fun h => h.elim hlt (fun h => by cases h.2))]
        have HM := HM0 b.f1 (by omega) (by omega)
        have HQ := Aside0.mk hpi
        rw [heq] at hem
        rw [← hem]
        clear hpl hpi HM0 hem fat fbw hlt hbi hwb heq
        go_enter Tryd.func96, Tryd.ntmps96
        go_wp2_with (first | ((with_reducible refine gate_box rfl ?_); refine ev_box S ?_; clear S; intro _ _ S) | ((with_reducible refine gate_new rfl ?_); refine ev_new S 41 zA ?_; clear S; intro _ _ S) | ((with_reducible refine gate_load rfl ?_); first | refine ev_load S ?_ | refine ev_fld S ?_) | (go_at_call 108; (with_reducible refine (isC_any a b _ _ HC.out).mono ?_); rintro e w7 ⟨rfl, hb⟩; replace S := Aside0.mk (S.out.step hb); clear hb) | (go_at_call 105; (with_reducible refine (rwidth_any b _ _ (HB.out.below S.out.below) HF.out.2.1 HF.out.2.2).mono ?_); rintro e w7 ⟨rfl, hb⟩; replace S := Aside0.mk (S.out.step hb); clear hb))
        (refine rg_start (n := 6) (fun W => St w W _ _) [] S.out (fun _ h => h.drew) ?_; clear S; intro _ S; refine pu_ 1 ?_; refine fl_ 2 1 S ?_; refine pu_ 3 ?_; refine cl_ 0 #[] ?_ Tryd.func104; refine (context_any _).mono ?_; rintro e w7 ⟨v, rfl, ⟨Ar, cr, rfl, _⟩, hR, hb⟩; refine ⟨_, rfl, S.step hb, fun _ => ?_⟩; have S' := S.addR hb hR; clear S hb hR; have S := S'; clear S'; refine nr_ ?_; refine cl_ 4 #[.slice Ar 1 cr, .int .i64 2, .int .i64 b.f1, .int .i64 (wid b)] ?_ Tryd.func103; refine (with_any ctx0 _ _ _ 2 b.f1 (wid b) _ (rowC_of S.now.2) HW.out).mono ?_; rintro e w7 ⟨v, rfl, hR, hb⟩; obtain ⟨Aw, cw, rfl⟩ := Kd.R_slice hR; refine ⟨_, rfl, (S.step hb).weak (fun _ h => h.1), fun _ => ?_⟩; have S' := (S.weak (fun _ h => h.1)).addR hb hR; clear S hb hR; have S := S'; clear S'; refine nr_ ?_; refine pu_ 5 ?_; refine done_ (by kernel_rfl) ?_; have S := Aside0.mk S)
        go_wp2_with (first | ((with_reducible refine gate_load rfl ?_); first | refine ev_load S ?_ | refine ev_fld S ?_) | ((with_reducible refine gate_st rfl ?_); refine ev_store S ?_; clear S; intro _ S) | (go_at_call 106; (with_reducible refine (place_any _ _ _ 2 0 _ _ (rowC_of S.out.now.2) HQ.out).mono ?_); rintro e w7 ⟨rfl, hb⟩; replace S := Aside0.mk (S.out.step hb); clear hb) | (go_at_call 106; (with_reducible refine (place_any _ _ _ _ _ _ _ (rowC_of S.out.now.2) HP.out).mono ?_); rintro e w7 ⟨rfl, hb⟩; replace S := Aside0.mk (S.out.step hb); clear hb) | (go_at_call 109; (with_reducible refine (rmoved_any a _ _ _ (HA.out.below S.out.below) HF.out.1 HM.out.1 HM.out.2.1 HM.out.2.2.1 HM.out.2.2.2).mono ?_); rintro e w7 ⟨v, rfl, hR, hb⟩; obtain ⟨Ai, ci, rfl⟩ := hR.slice; replace S := Aside0.mk (S.out.addOp hb hR); clear hb hR))
        exact bodyPost_ret (results_ct rfl _ _ _ 41 _ (0, 0) _ rfl (S.out.at_ 0 rfl) Tryd.underlying41 rfl (by kernel_rfl)) rfl ⟨_, rfl, S.out.now.2, S.out.below⟩
     · rw [if_neg (show ¬ (b.f1 < a.f1 ∨ b.f1 = a.f1 ∧ e = true) from fun h => h.elim hlt (fun h => heq h.1.symm)), ← hem]
       have q1 : (a.f1 == b.f1) = false := beq_eq_false_iff_ne.mpr heq
       rw [if_pos (show a.f1 < b.f1 by omega)] at hpl
       have HP := Aside0.mk hpl
       have HM := HM0 a.f1 (by omega) (by omega)
       clear hpl hpi HM0 hem fat fbw hlt hbi hwb heq
       go_enter Tryd.func96, Tryd.ntmps96
       go_wp2_with (first | ((with_reducible refine gate_box rfl ?_); refine ev_box S ?_; clear S; intro _ _ S) | ((with_reducible refine gate_new rfl ?_); refine ev_new S 41 zA ?_; clear S; intro _ _ S) | ((with_reducible refine gate_load rfl ?_); first | refine ev_load S ?_ | refine ev_fld S ?_) | (go_at_call 108; (with_reducible refine (isC_any a b _ _ HC.out).mono ?_); rintro e w7 ⟨rfl, hb⟩; replace S := Aside0.mk (S.out.step hb); clear hb) | (go_at_call 105; (with_reducible refine (rwidth_any b _ _ (HB.out.below S.out.below) HF.out.2.1 HF.out.2.2).mono ?_); rintro e w7 ⟨rfl, hb⟩; replace S := Aside0.mk (S.out.step hb); clear hb))
       (refine rg_start (n := 6) (fun W => St w W _ _) [] S.out (fun _ h => h.drew) ?_; clear S; intro _ S; refine pu_ 1 ?_; refine fl_ 2 1 S ?_; refine pu_ 3 ?_; refine cl_ 0 #[] ?_ Tryd.func104; refine (context_any _).mono ?_; rintro e w7 ⟨v, rfl, ⟨Ar, cr, rfl, _⟩, hR, hb⟩; refine ⟨_, rfl, S.step hb, fun _ => ?_⟩; have S' := S.addR hb hR; clear S hb hR; have S := S'; clear S'; refine nr_ ?_; refine cl_ 4 #[.slice Ar 1 cr, .int .i64 2, .int .i64 b.f1, .int .i64 (wid b)] ?_ Tryd.func103; refine (with_any ctx0 _ _ _ 2 b.f1 (wid b) _ (rowC_of S.now.2) HW.out).mono ?_; rintro e w7 ⟨v, rfl, hR, hb⟩; obtain ⟨Aw, cw, rfl⟩ := Kd.R_slice hR; refine ⟨_, rfl, (S.step hb).weak (fun _ h => h.1), fun _ => ?_⟩; have S' := (S.weak (fun _ h => h.1)).addR hb hR; clear S hb hR; have S := S'; clear S'; refine nr_ ?_; refine pu_ 5 ?_; refine done_ (by kernel_rfl) ?_; have S := Aside0.mk S)
       go_wp2_with (first | ((with_reducible refine gate_load rfl ?_); first | refine ev_load S ?_ | refine ev_fld S ?_) | ((with_reducible refine gate_st rfl ?_); refine ev_store S ?_; clear S; intro _ S) | (go_at_call 106; (with_reducible refine (place_any _ _ _ _ _ _ _ (rowC_of S.out.now.2) HP.out).mono ?_); rintro e w7 ⟨rfl, hb⟩; replace S := Aside0.mk (S.out.step hb); clear hb) | (go_at_call 109; (with_reducible refine (rmoved_any a _ _ _ (HA.out.below S.out.below) HF.out.1 HM.out.1 HM.out.2.1 HM.out.2.2.1 HM.out.2.2.2).mono ?_); rintro e w7 ⟨v, rfl, hR, hb⟩; obtain ⟨Ai, ci, rfl⟩ := hR.slice; replace S := Aside0.mk (S.out.addOp hb hR); clear hb hR))
       exact bodyPost_ret (results_ct rfl _ _ _ 41 _ (0, 0) _ rfl (S.out.at_ 0 rfl) Tryd.underlying41 rfl (by kernel_rfl)) rfl ⟨_, rfl, S.out.now.2, S.out.below⟩
 rw [if_neg k1]
 have k1' : (a.f0.f1 == 1) = false := beq_eq_false_iff_ne.mpr k1
 by_cases kh : a.f0.f1 = 2 ∨ a.f0.f1 = 3
 · rw [if_pos kh]
   obtain ⟨k, lf, qf, hf, hll, hcov⟩ := hr kh hk
   rw [← hcov]
   have k4' : (a.f0.f1 == 4) = false := beq_eq_false_iff_ne.mpr (by omega)
   have HP := Aside0.mk hf
   have HL := Aside0.mk hll
   clear hr e3 em ka kh hf hll hcov hbi hwb hk k1
   go_enter Tryd.func96, Tryd.ntmps96
   go_wp2_with (first | ((with_reducible refine gate_box rfl ?_); refine ev_box S ?_; clear S; intro _ _ S) | ((with_reducible refine gate_new rfl ?_); refine ev_new S 41 zA ?_; clear S; intro _ _ S) | ((with_reducible refine gate_load rfl ?_); first | refine ev_load S ?_ | refine ev_fld S ?_) | (go_at_call 108; (with_reducible refine (isC_any a b _ _ HC.out).mono ?_); rintro e w7 ⟨rfl, hb⟩; replace S := Aside0.mk (S.out.step hb); clear hb) | (go_at_call 105; (with_reducible refine (rwidth_any b _ _ (HB.out.below S.out.below) HF.out.2.1 HF.out.2.2).mono ?_); rintro e w7 ⟨rfl, hb⟩; replace S := Aside0.mk (S.out.step hb); clear hb))
   (refine rg_start (n := 6) (fun W => St w W _ _) [] S.out (fun _ h => h.drew) ?_; clear S; intro _ S; refine pu_ 1 ?_; refine fl_ 2 1 S ?_; refine pu_ 3 ?_; refine cl_ 0 #[] ?_ Tryd.func104; refine (context_any _).mono ?_; rintro e w7 ⟨v, rfl, ⟨Ar, cr, rfl, _⟩, hR, hb⟩; refine ⟨_, rfl, S.step hb, fun _ => ?_⟩; have S' := S.addR hb hR; clear S hb hR; have S := S'; clear S'; refine nr_ ?_; refine cl_ 4 #[.slice Ar 1 cr, .int .i64 2, .int .i64 b.f1, .int .i64 (wid b)] ?_ Tryd.func103; refine (with_any ctx0 _ _ _ 2 b.f1 (wid b) _ (rowC_of S.now.2) HW.out).mono ?_; rintro e w7 ⟨v, rfl, hR, hb⟩; obtain ⟨Aw, cw, rfl⟩ := Kd.R_slice hR; refine ⟨_, rfl, (S.step hb).weak (fun _ h => h.1), fun _ => ?_⟩; have S' := (S.weak (fun _ h => h.1)).addR hb hR; clear S hb hR; have S := S'; clear S'; refine nr_ ?_; refine pu_ 5 ?_; refine done_ (by kernel_rfl) ?_; have S := Aside0.mk S)
   go_wp2_with (((with_reducible refine gate_load rfl ?_); first | refine ev_load S ?_ | refine ev_fld S ?_))
   (refine rg_start (n := 10) (fun W => St w W _ _) [] S.out (fun _ h => h.drew) ?_; clear S; intro _ S; refine pu_ 1 ?_; refine pu_ 2 ?_; refine fl_ 3 2 S ?_; refine cl_ 0 #[] ?_ Tryd.func104; refine (context_any _).mono ?_; rintro e w7 ⟨v, rfl, ⟨Ar, cr, rfl, _⟩, hR, hb⟩; refine ⟨_, rfl, S.step hb, fun _ => ?_⟩; have S' := S.addR hb hR; clear S hb hR; have S := S'; clear S'; refine nr_ ?_; refine cl_ 4 #[.slice Ar 1 cr, .slice Aw (ctxWith 2 b.f1 (wid b)).length cw, .slice A a.f3.length c] ?_ Tryd.func110; refine (found_any ctx0 (ctxWith 2 b.f1 (wid b)) a.f3 lf qf _ _ _ A c _ (rowC_of S.now.2) (rowC_of S.now.1.2) H1.out (Kd.C_below H2.out S.below) HP.out).mono ?_; rintro e w7 ⟨v, rfl, hR, hb⟩; obtain ⟨Af, cf, rfl⟩ := Kd.R_slice hR; refine ⟨_, rfl, (S.step hb).weak (fun _ h => h.1), fun _ => ?_⟩; have S' := S.addR hb hR; clear S hb hR; have S := S'; clear S'; refine nr_ ?_; refine pu_ 5 ?_; refine pu_ 6 ?_; refine pu_ 7 ?_; refine pu_ 8 ?_; refine pu_ 9 ?_; refine done_ (by kernel_rfl) ?_; have S := Aside0.mk S)
   go_wp2_with (first | ((with_reducible refine gate_load rfl ?_); first | refine ev_load S ?_ | refine ev_fld S ?_) | ((with_reducible refine gate_st rfl ?_); refine ev_store S ?_; clear S; intro _ S) | (go_at_call 111; (with_reducible refine (covering_any a _ _ _ w _ _ _ S.out ?hbs HA.out S.out.now.2 HL.out).mono ?_); (case hbs => simp [k94_E]); rintro e w7 ⟨v, rfl, ⟨Ai, ci, rfl⟩, hS⟩; replace S := Aside0.mk hS; clear hS))
   exact bodyPost_ret (results_ct rfl _ _ _ 41 _ (0, 0) _ rfl (S.out.at_ 0 rfl) Tryd.underlying41 rfl (by kernel_rfl)) rfl ⟨_, rfl, S.out.now.2, S.out.below⟩
 · rw [if_neg kh]
   have k4' : (a.f0.f1 == 4) = true := beq_iff_eq.mpr (by omega)
   clear hr e3 em ka kh hbi hwb hk k1
   go_enter Tryd.func96, Tryd.ntmps96
   go_wp2_with (first | ((with_reducible refine gate_box rfl ?_); refine ev_box S ?_; clear S; intro _ _ S) | ((with_reducible refine gate_new rfl ?_); refine ev_new S 41 zA ?_; clear S; intro _ _ S) | ((with_reducible refine gate_load rfl ?_); first | refine ev_load S ?_ | refine ev_fld S ?_) | ((with_reducible refine gate_st rfl ?_); refine ev_store S ?_; clear S; intro _ S) | (go_at_call 108; (with_reducible refine (isC_any a b _ _ HC.out).mono ?_); rintro e w7 ⟨rfl, hb⟩; replace S := Aside0.mk (S.out.step hb); clear hb) | (go_at_call 22; (with_reducible refine (rcopy_any a _ _ (HA.out.below S.out.below) HF.out.1).mono ?_); rintro e w7 ⟨v, rfl, hR, hb⟩; obtain ⟨Ao, co, rfl⟩ := hR.slice; replace S := Aside0.mk (S.out.addOp hb hR); clear hb hR))
   exact bodyPost_ret (results_ct rfl _ _ _ 41 _ (0, 0) _ rfl (S.out.at_ 0 rfl) Tryd.underlying41 rfl (by kernel_rfl)) rfl ⟨_, rfl, S.out.now.2, S.out.below⟩
end Go.Proofs.YtloccjkcmlkifaaDoor
end

section
/- The document finds of ranges behind an insert what span.Through makes of them; an include of what is right is right. -/
namespace Go.Proofs.YtloccjkcmlkifaaDoor
open Go.RowKit Go.Proofs.YtloccjkcmlkifaaDoor.PAll Go.Proofs.YtloccjkcmlkifaaDoorW.PrintWords

theorem found_loop (l : List S94) (p n : Int) (hp : 0 ≤ p ∧ p ≤ 1048576) (hn : 1 ≤ n ∧ n ≤ 1048576) (hL : l.length ≤ 1048576) (R : List S94) (K : Nat) (hR : ∀ k, K ≤ k → redraftref02_Places.f k (thrS p n l) = some R) :
 ∀ (d k i : Nat) (out : List S94) (x : Int), l.length = i + d → -1 ≤ x → Nrm x (l.drop i) → out ++ thrS p n (l.drop i) = thrS p n l → out.length ≤ 2 * i → K + 2 * d + 10 ≤ k →
 redraftref05_found.l1 k ctx0 (ctxWith 2 p n) l out 0 (i : Int) 0 2097152 (i : Int) 0 0 2097152 = some (R, 0) := by
 intro d
 induction d with
 | zero =>
  intro k i out x h1 hx hN ho hol hk
  obtain ⟨k, rfl⟩ : ∃ m, k = m + 3 := ⟨k - 3, by omega⟩
  rw [List.drop_eq_nil_of_le (by omega)] at ho
  have ho' : out = thrS p n l := by simpa [thrS] using ho
  have q1 : ¬ (i : Int) < (l.length : Int) := by omega
  have w : wrap64 (0 + 1) = 1 := by unfold wrap64; omega
  have q2 : ¬ (1 : Int) < ((ctx0).length : Int) := by simp
  rw [show k + 3 = (k + 2) + 1 from rfl, redraftref05_found.l1, if_neg q1, show k + 2 = (k + 1) + 1 from rfl, redraftref05_found.j2, if_neg (by simp), w, redraftref05_found.l0, if_neg q2, ho', hR k (by omega)]
  rfl
 | succ d ih =>
  intro k i out x h1 hx hN ho hol hk
  obtain ⟨k, rfl⟩ : ∃ m, k = m + 2 := ⟨k - 2, by omega⟩
  have hi : i < l.length := by omega
  obtain ⟨r, hr⟩ : ∃ r, r = l.getD i z94 := ⟨_, rfl⟩
  have hd : l.drop i = r :: l.drop (i + 1) := by
   rw [hr, List.drop_eq_getElem_cons hi, List.getD_eq_getElem?_getD, List.getElem?_eq_getElem hi]; rfl
  have e : rd_T94 l (i : Int) = r := by unfold rd_T94; rw [Int.toNat_natCast, hr]
  rw [hd] at hN
  obtain ⟨b1, b2, b3, b4⟩ := hN
  have q1 : (i : Int) < (l.length : Int) := by omega
  have q2 : (0 : Int) ≤ (i : Int) := by omega
  have q3 : out.length + (sp p n ⟨r.f0, r.f1⟩).length < 8796093022208 := by have := sp_len p n ⟨r.f0, r.f1⟩; omega
  have q4 : ¬ r.f1 > 2097152 := by omega
  have q5 : ¬ ((sp p n ⟨r.f0, r.f1⟩).length : Int) = 0 := by
   have : 0 < (sp p n ⟨r.f0, r.f1⟩).length := by
    unfold sp
    split
    · simp
    · split <;> simp
   omega
  have q6 : decide (r.f0 < 2097152) = true := decide_eq_true (by omega)
  have m1 : mx r.f0 0 = r.f0 := by unfold mx; split <;> omega
  have m2 : mn r.f1 2097152 = r.f1 := by unfold mn; split <;> omega
  have hk' : K + 2 * d + 10 ≤ k := by omega
  have hka : 4 ≤ k := by omega
  have g1 : l.length = (i + 1) + d := by omega
  have g2 : -1 ≤ r.f1 := by omega
  have g3 : (out ++ sp p n ⟨r.f0, r.f1⟩).length ≤ 2 * (i + 1) := by have := sp_len p n ⟨r.f0, r.f1⟩; simp; omega
  have am := among_ctx (k - 4) p n r.f0 r.f1 hp hn ⟨by omega, b2, b3⟩
  rw [show k - 4 + 4 = k by omega] at am
  have w1 : wrap64 (wrap64 (0 + r.f0) - 0) = r.f0 := by rw [wrap_id (n := 0 + r.f0) (by omega) (by omega), wrap_id (by omega) (by omega)]; omega
  have w2 : wrap64 (wrap64 (0 + r.f1) - 0) = r.f1 := by rw [wrap_id (n := 0 + r.f1) (by omega) (by omega), wrap_id (by omega) (by omega)]; omega
  have w3 : wrap64 ((i : Int) + 1) = ((i + 1 : Nat) : Int) := by rw [wrap_id (by omega) (by omega)]; omega
  rw [show k + 2 = (k + 1) + 1 from rfl, redraftref05_found.l1, if_pos q1, if_pos q2, e, q6, redraftref05_found.j2, if_pos rfl, if_pos q2, if_pos q1, e, m1, m2, w1, w2, am]
  simp only [Option.bind_some]
  rw [if_neg q5, if_pos q3]
  show (if r.f1 > 2097152 then _ else _) = _
  rw [if_neg q4, w3]
  refine ih k (i + 1) _ r.f1 g1 g2 b4 ?_ g3 hk'
  rw [← ho, hd]
  show _ = out ++ (sp p n r ++ thrS p n (l.drop (i + 1)))
  rw [List.append_assoc]
theorem found_is (l : List S94) (p n : Int) (hp : 0 ≤ p ∧ p ≤ 1048576) (hn : 1 ≤ n ∧ n ≤ 1048576) (hl : (rngE l).2 = 0) : ∃ k, redraftref05_found.f k ctx0 (ctxWith 2 p n) l = some (thrS p n l, 0) := by
 obtain ⟨hlen, hN⟩ := rng_ok hl
 have hg := thrS_nrm p n hn.1 l (-1) hN
 have htl := thr_len p n l
 obtain ⟨K, hK⟩ := places_is (thrS p n l) hg.gap.wk (by omega)
 rw [gap_join _ hg.gap] at hK
 have := found_loop l p n hp hn (by omega) (thrS p n l) K hK l.length (K + 2 * l.length + 10) 0 [] (-1) (by omega) (by omega) (by simpa using hN) (by simp) (by simp) (by omega)
 refine ⟨K + 2 * l.length + 11, ?_⟩
 have w : wrap64 (wrap64 (0 + 2097152) - 0) = 2097152 := by unfold wrap64; omega
 unfold redraftref05_found.f
 rw [show K + 2 * l.length + 11 = (K + 2 * l.length + 10) + 1 from rfl, redraftref05_found.l0, if_pos (by simp), if_pos (by omega)]
 have e : rd_T154 ctx0 0 = ⟨0, 0, 2097152⟩ := rfl
 rw [e]
 simp only
 rw [w]
 exact this

structure Good (o : S41) : Prop where
 own : ownE o = 0
 fine : fineOp o
theorem nrm_last {x : Int} : ∀ {l : List S94}, Nrm x l → 0 < l.length → 0 ≤ x + 1 → 0 ≤ lastHi l ∧ lastHi l ≤ 1048576
 | [r], h, _, hx => ⟨by show 0 ≤ r.f1; have := h.1; have := h.2.1; omega, h.2.2.1⟩
 | r :: s :: t, h, _, hx => nrm_last (l := s :: t) h.2.2.2 (by simp) (by have := h.1; have := h.2.1; omega)
theorem last_bound {l : List S94} (h : (rngE l).2 = 0) : -1048576 ≤ lastHi l ∧ lastHi l ≤ 1048576 := by
 obtain ⟨_, hN⟩ := rng_ok h
 by_cases h0 : 0 < l.length
 · have := nrm_last hN h0 (by omega); omega
 · have e : l = [] := List.eq_nil_of_length_eq_zero (by omega)
   rw [e]
   show -1048576 ≤ z94.f1 ∧ z94.f1 ≤ 1048576
   unfold z94; simp
theorem Good.rng {o : S41} (g : Good o) (h : o.f0.f1 = 2 ∨ o.f0.f1 = 3) : (rngE o.f3).2 = 0 := ((own_ok g.own).2.2.2.2.2.1 h).2.1
theorem Good.kind {o : S41} (g : Good o) : o.f0.f1 = 1 ∨ o.f0.f1 = 2 ∨ o.f0.f1 = 3 ∨ o.f0.f1 = 4 := by have := own_ok g.own; omega
theorem Good.extra {o : S41} (g : Good o) : extraB o = false := (own_ok g.own).2.2.2.1
theorem Good.noRanges {o : S41} (g : Good o) (h : o.f0.f1 = 1 ∨ o.f0.f1 = 4) : o.f3 = [] := by
 have he := g.extra
 unfold extraB at he
 have := of_decide_eq_false he
 refine List.eq_nil_of_length_eq_zero (Nat.eq_zero_of_not_pos fun hp => this (.inr (.inl ⟨by omega, by omega, by omega⟩)))
theorem Good.noAt {o : S41} (g : Good o) (h : o.f0.f1 ≠ 1) : o.f1 = 0 := by
 have he := g.extra
 unfold extraB at he
 have := of_decide_eq_false he
 by_cases hz : o.f1 = 0
 · exact hz
 · exact absurd (.inl ⟨h, .inl hz⟩) this
theorem Good.fit {o : S41} (g : Good o) : Fit o := by
 have hb := chk_bound o.f2 g.fine.1
 refine ⟨g.fine.2, ?_, ?_⟩
 · by_cases h : o.f0.f1 = 1
   · have := own_ins g.own g.fine.1 h; omega
   · rw [g.noAt h]; omega
 · unfold wid
   have := g.fine.1
   split <;> omega
theorem Good.wid1 {o : S41} (g : Good o) (h : o.f0.f1 = 1) : 1 ≤ wid o ∧ wid o ≤ 256 ∧ 0 ≤ o.f1 ∧ o.f1 + wid o ≤ 1048576 := by
 have := own_ins g.own g.fine.1 h
 have e : wid o = (chk o.f2).1 := if_pos h
 omega
theorem Good.move0 {o : S41} (g : Good o) (h : o.f0.f1 = 1) : moveE o o.f1 = (o, 0) := by
 have := g.wid1 h
 unfold moveE
 rw [if_neg (by omega)]
 have e := g.noRanges (.inl h)
 obtain ⟨f0, f1, f2, f3, f4, f5⟩ := o
 simp only at e
 rw [e]
def incE (a b : S41) (e : Bool) : S41 × Int := incP a b e (thrE a.f3 b.f1 (wid b))
theorem incE_ref (a b : S41) (e : Bool) (va vb : Value) (w : World) (ha : OpC w va a) (hb : OpC w vb b) (ga : Good a) (gb : Good b) :
 Calls Tryd.prog 96 #[.agg (opA a va), .agg (opA b vb), .bool e] w (RetOp w (incE a b e)) :=
 rinclude_any a b e va vb _ w ha hb ga.fit gb.fit ga.fine gb.fine ga.own gb.own (fun h => ga.noRanges (.inl h)) ga.move0 fun h1 h2 => by
  have hb1 := gb.wid1 h2
  obtain ⟨k, hk⟩ := found_is a.f3 b.f1 (wid b) ⟨hb1.2.2.1, by omega⟩ ⟨hb1.1, by omega⟩ (ga.rng h1)
  have := thr_len b.f1 (wid b) a.f3
  have := ga.fine.2
  exact ⟨k, _, _, hk, by omega, cov_thr a b.f1 (wid b) (last_bound (ga.rng h1)).2⟩
end Go.Proofs.YtloccjkcmlkifaaDoor
end

section
/- What is made of right operations is right. -/
namespace Go.Proofs.YtloccjkcmlkifaaDoor
open Go.RowKit Go.Proofs.YtloccjkcmlkifaaDoor.PAll Go.Proofs.YtloccjkcmlkifaaDoorW.PrintWords

theorem own_mk_ins {o : S41} (k : o.f0.f1 = 1) (hb : ¬ badID o) (he : extraB o = false) (h1 : (chk o.f2).2.2 = 0) (h2 : 1 ≤ (chk o.f2).1 ∧ (chk o.f2).1 ≤ 256) (h3 : 0 ≤ o.f1 ∧ o.f1 + (chk o.f2).1 ≤ 1048576) : ownE o = 0 := by
 have ht : totOf o = o.f1 := by unfold totOf; rw [if_pos ⟨k, by omega, by omega⟩]
 unfold ownE checkE
 rw [ht, if_neg (show ¬ (o.f1 < 0 ∨ 1048576 < o.f1) by omega), if_neg (show ¬ (o.f0.f1 < 1 ∨ 4 < o.f0.f1) by omega), if_neg hb, if_neg (show ¬ extraB o = true by rw [he]; simp), if_pos k]
 unfold insE
 rw [if_pos h1, if_neg (show ¬ (chk o.f2).1 = 0 by omega), if_neg (show ¬ 256 < (chk o.f2).1 by omega), if_neg (show ¬ (o.f1 < 0 ∨ o.f1 < o.f1) by omega), if_neg (show ¬ 1048576 < o.f1 + (chk o.f2).1 by omega)]
theorem own_mk_cov {o : S41} (k : o.f0.f1 = 2 ∨ o.f0.f1 = 3) (hb : ¬ badID o) (he : extraB o = false) (h0 : 0 < o.f3.length) (h1 : (rngE o.f3).2 = 0) (h2 : lastHi o.f3 ≤ 1048576) : ownE o = 0 := by
 have ht : totOf o = 1048576 := by unfold totOf; rw [if_neg (show ¬ (o.f0.f1 = 1 ∧ 0 ≤ o.f1 ∧ o.f1 ≤ 1048576) by omega)]
 unfold ownE checkE
 rw [ht, if_neg (by omega), if_neg (show ¬ (o.f0.f1 < 1 ∨ 4 < o.f0.f1) by omega), if_neg hb, if_neg (show ¬ extraB o = true by rw [he]; simp), if_neg (show ¬ o.f0.f1 = 1 by omega), if_neg (show ¬ o.f0.f1 = 4 by omega)]
 unfold rgsE
 rw [if_neg (by omega), if_pos h1, if_neg (by omega)]
theorem good_move {a : S41} (g : Good a) (k : a.f0.f1 = 1) {p : Int} (hp : 0 ≤ p) (h : (moveE a p).2 = 0) : Good (moveE a p).1 := by
 have hw := g.wid1 k
 have e : wid a = (chk a.f2).1 := if_pos k
 have ho := own_ok g.own
 have hi := own_ins g.own g.fine.1 k
 unfold moveE at h ⊢
 by_cases c : 1048576 < p + wid a
 · rw [if_pos c] at h; exact absurd h (by simp)
 · rw [if_neg c]
   refine ⟨own_mk_ins k ho.2.2.1 ?_ hi.2.2.1 ⟨hi.2.2.2.1, hi.2.2.2.2.1⟩ ⟨hp, by show p + (chk a.f2).1 ≤ 1048576; omega⟩, g.fine.1, by simp⟩
   have := g.extra
   unfold extraB at this ⊢
   have hq := of_decide_eq_false this
   refine decide_eq_false fun h => ?_
   rcases h with h | h | h
   · exact h.1 k
   · exact absurd rfl h.2.2
   · exact hq (.inr (.inr h))
theorem good_ranged {a : S41} (g : Good a) (k : a.f0.f1 = 2 ∨ a.f0.f1 = 3) {l : List S94} (h0 : 0 < l.length) (hl : l.length ≤ 32768) (hn : Nrm (-1) l) : Good ⟨a.f0, a.f1, a.f2, l, a.f4, a.f5⟩ := by
 have ho := own_ok g.own
 have hr := ok_rng hl hn
 refine ⟨own_mk_cov k ho.2.2.1 ?_ h0 (by rw [hr]) (last_bound (by rw [hr])).2, g.fine.1, by show l.length ≤ 1048576; omega⟩
 have := g.extra
 unfold extraB at this ⊢
 have hq := of_decide_eq_false this
 refine decide_eq_false fun h => ?_
 rcases h with h | h | h
 · exact hq (.inl h)
 · have h1 : a.f0.f1 ≠ 2 := h.1
   have h2 : a.f0.f1 ≠ 3 := h.2.1
   omega
 · exact hq (.inr (.inr h))
theorem inc_good {a b : S41} {e : Bool} (ga : Good a) (gb : Good b) (h : (incE a b e).2 = 0) : Good (incE a b e).1 := by
 unfold incE incP at h ⊢
 by_cases c1 : clashB a b = true
 · rw [if_pos c1] at h; exact absurd h (by simp)
 rw [if_neg c1] at h ⊢
 by_cases c2 : b.f0.f1 = 1
 case neg => rw [if_pos c2]; exact ga
 rw [if_neg (fun q => q c2)] at h ⊢
 have hb := gb.wid1 c2
 by_cases c3 : a.f0.f1 = 1
 · rw [if_pos c3] at h ⊢
   have ha := ga.wid1 c3
   by_cases c4 : b.f1 < a.f1 ∨ b.f1 = a.f1 ∧ e = true
   · rw [if_pos c4] at h ⊢
     exact good_move ga c3 (by omega) h
   · rw [if_neg c4]; exact ga
 · rw [if_neg c3] at h ⊢
   by_cases c4 : a.f0.f1 = 2 ∨ a.f0.f1 = 3
   case neg => rw [if_neg c4]; exact ga
   rw [if_pos c4] at h ⊢
   have hrg := ga.rng c4
   obtain ⟨hlen, hN⟩ := rng_ok hrg
   have hl0 : 0 < a.f3.length := Nat.pos_of_ne_zero ((own_ok ga.own).2.2.2.2.2.1 c4).1
   have hlb := last_bound hrg
   unfold rangedE thrE at h ⊢
   by_cases c5 : 0 < a.f3.length ∧ b.f1 < lastHi a.f3 ∧ 1048576 < lastHi a.f3 + wid b
   · rw [if_pos c5] at h; exact absurd h (by simp)
   rw [if_neg c5] at h ⊢
   unfold bnd at h ⊢
   by_cases c6 : 32768 < (thrS b.f1 (wid b) a.f3).length
   · rw [if_pos c6] at h; exact absurd h (by simp)
   rw [if_neg c6] at h ⊢
   rw [if_pos rfl]
   have hB := thrS_nrm b.f1 (wid b) hb.1 a.f3 (-1) hN
   have hlast : lastHi (thrS b.f1 (wid b) a.f3) ≤ 1048576 := by
    rw [thr_last _ _ hl0]
    unfold sh
    split
    · omega
    · have := fun q => c5 ⟨hl0, by omega, q⟩
      omega
   refine good_ranged ga c4 (thrS_ne _ _ hl0) (by show (thrS b.f1 (wid b) a.f3).length ≤ 32768; omega) ?_
   have hsh : sh b.f1 (wid b) (-1) = -1 := by unfold sh; rw [if_pos (by omega)]
   rw [hsh] at hB
   exact hB.nrm fun r hr => by have := hB.le_last r hr; omega
end Go.Proofs.YtloccjkcmlkifaaDoor
end

section
/- Runs: their own errors, on both sides; an element that is read. -/
namespace Go.Proofs.YtloccjkcmlkifaaDoor
open Go.RowKit Go.Proofs.YtloccjkcmlkifaaDoor.PAll Go.Proofs.YtloccjkcmlkifaaDoorW.PrintWords

def ownsE : List S41 → Int
 | [] => 0
 | o :: t => if ownE o = 0 then ownsE t else ownE o
theorem owns_good : ∀ {l : List S41}, ownsE l = 0 → (∀ o ∈ l, fineOp o) → ∀ o ∈ l, Good o
 | o :: t, h, hf, x, hx => by
  unfold ownsE at h
  by_cases c : ownE o = 0
  · rw [if_pos c] at h
    rcases List.mem_cons.1 hx with rfl | hx
    · exact ⟨c, hf _ (by simp)⟩
    · exact owns_good h (fun y hy => hf y (by simp [hy])) x hx
  · rw [if_neg c] at h; exact absurd h c
theorem owns_loop (l : List S41) (hf : ∀ o ∈ l, fineOp o) (hl : l.length ≤ 1048576) : ∀ (d i : Nat), l.length = i + d → Ev (fun k => xform_owns.l0 k l (l.length : Int) (i : Int)) (ownsE (l.drop i)) := by
 intro d
 induction d with
 | zero =>
  intro i h
  refine ⟨1, fun k hk => ?_⟩
  obtain ⟨k, rfl⟩ : ∃ m, k = m + 1 := ⟨k - 1, by omega⟩
  simp only
  rw [xform_owns.l0, if_neg (by omega), List.drop_eq_nil_of_le (by omega)]
  rfl
 | succ d ih =>
  intro i h
  have hi : i < l.length := by omega
  obtain ⟨K1, h1⟩ := ih (i + 1) (by omega)
  obtain ⟨o, ho⟩ : ∃ o, o = l.getD i z41 := ⟨_, rfl⟩
  have hd : l.drop i = o :: l.drop (i + 1) := by
   rw [ho, List.drop_eq_getElem_cons hi, List.getD_eq_getElem?_getD, List.getElem?_eq_getElem hi]; rfl
  have hm : o ∈ l := by
   rw [ho, List.getD_eq_getElem?_getD, List.getElem?_eq_getElem hi]; exact List.getElem_mem hi
  have hfo := hf o hm
  obtain ⟨K2, h2⟩ := own_is o hfo.1 (by have := hfo.2; omega)
  dsimp only at h1 h2
  have e : rd_T41 l (i : Int) = o := by unfold rd_T41; rw [Int.toNat_natCast, ho]
  have w : wrap64 ((i : Int) + 1) = ((i + 1 : Nat) : Int) := by rw [wrap_id (by omega) (by omega)]; omega
  have q1 : (i : Int) < (l.length : Int) := by omega
  have q2 : (0 : Int) ≤ (i : Int) := by omega
  refine ⟨K1 + K2 + 1, fun k hk => ?_⟩
  obtain ⟨k, rfl⟩ : ∃ m, k = m + 1 := ⟨k - 1, by omega⟩
  simp only
  rw [xform_owns.l0, if_pos q1, if_pos q2, if_pos q1, e, h2 k (by omega)]
  simp only [Option.bind_some]
  rw [hd]
  unfold ownsE
  by_cases c : ownE o = 0
  · rw [if_pos c, if_pos c, w, h1 k (by omega)]
  · rw [if_neg c, if_neg c]
theorem rowns_loop (l : List S41) (hf : ∀ o ∈ l, fineOp o) (hl : l.length ≤ 1048576) : ∀ (d i : Nat), l.length = i + d → Ev (fun k => redraftref05_own.l0 k l (i : Int)) (ownsE (l.drop i)) := by
 intro d
 induction d with
 | zero =>
  intro i h
  refine ⟨1, fun k hk => ?_⟩
  obtain ⟨k, rfl⟩ : ∃ m, k = m + 1 := ⟨k - 1, by omega⟩
  simp only
  rw [redraftref05_own.l0, if_neg (by omega), List.drop_eq_nil_of_le (by omega)]
  rfl
 | succ d ih =>
  intro i h
  have hi : i < l.length := by omega
  obtain ⟨K1, h1⟩ := ih (i + 1) (by omega)
  obtain ⟨o, ho⟩ : ∃ o, o = l.getD i z41 := ⟨_, rfl⟩
  have hd : l.drop i = o :: l.drop (i + 1) := by
   rw [ho, List.drop_eq_getElem_cons hi, List.getD_eq_getElem?_getD, List.getElem?_eq_getElem hi]; rfl
  have hm : o ∈ l := by
   rw [ho, List.getD_eq_getElem?_getD, List.getElem?_eq_getElem hi]; exact List.getElem_mem hi
  have hfo := hf o hm
  obtain ⟨K2, h2⟩ := rown_is o hfo.1 (by have := hfo.2; omega)
  dsimp only at h1 h2
  have e : rd_T41 l (i : Int) = o := by unfold rd_T41; rw [Int.toNat_natCast, ho]
  have w : wrap64 ((i : Int) + 1) = ((i + 1 : Nat) : Int) := by rw [wrap_id (by omega) (by omega)]; omega
  have q1 : (i : Int) < (l.length : Int) := by omega
  have q2 : (0 : Int) ≤ (i : Int) := by omega
  refine ⟨K1 + K2 + 1, fun k hk => ?_⟩
  obtain ⟨k, rfl⟩ : ∃ m, k = m + 1 := ⟨k - 1, by omega⟩
  simp only
  rw [redraftref05_own.l0, if_pos q1, if_pos q2, e, h2 k (by omega)]
  simp only [Option.bind_some]
  rw [hd]
  unfold ownsE
  by_cases c : ownE o = 0
  · rw [if_pos c, if_pos c, w, h1 k (by omega)]
  · rw [if_neg c, if_neg c]
def RunC (w : World) (v : Value) (l : List S41) : Prop := ∃ A c, v = .slice A l.length c ∧ l.length ≤ c ∧ k41.C w A l.length l
theorem RunC.below {w w' : World} {v : Value} {l : List S41} (h : RunC w v l) (hb : Below w.heap.size w w') : RunC w' v l := by
 obtain ⟨A, c, e, h1, h2⟩ := h
 exact ⟨A, c, e, h1, Kd.C_below h2 hb⟩
theorem runC_mk {w : World} {l : List S41} {A : Option Addr} {c : Nat} (h1 : l.length ≤ c) (h2 : k41.C w A l.length l) : RunC w (.slice A l.length c) l := ⟨A, c, rfl, h1, h2⟩
theorem owns_any (l : List S41) (v : Value) (w : World) (hG : GW w) (h : RunC w v l) (hf : ∀ o ∈ l, fineOp o) (hl : l.length ≤ 1048576) : Calls Tryd.prog 55 #[v] w fun e w' => e = .returned (.int .i64 (ownsE l)) ∧ Below w.heap.size w w' := by
 obtain ⟨A, c, rfl, h1, h2⟩ := h
 obtain ⟨K, hK⟩ := owns_loop l hf hl l.length 0 (by omega)
 exact xform_owns.calls K A c l _ w h2 h1 hG (by unfold xform_owns.f; exact hK K (Nat.le_refl _))
theorem rowns_any (l : List S41) (v : Value) (w : World) (h : RunC w v l) (hf : ∀ o ∈ l, fineOp o) (hl : l.length ≤ 1048576) : Calls Tryd.prog 95 #[v] w fun e w' => e = .returned (.int .i64 (ownsE l)) ∧ Below w.heap.size w w' := by
 obtain ⟨A, c, rfl, h1, h2⟩ := h
 obtain ⟨K, hK⟩ := rowns_loop l hf hl l.length 0 (by omega)
 exact redraftref05_own.calls K A c l _ w h2 h1 (by unfold redraftref05_own.f; exact hK K (Nat.le_refl _))
theorem elem_C {w : World} {A : Option Addr} {l : List S41} (h : k41.C w A l.length l) (i : Nat) (hi : i < l.length) :
 ∃ ad A5 c5, A = some ad ∧ (∀ W, Below w.heap.size w W → atL W (ad.add (i * 9)) 0 (opA (l.getD i z41) (.slice A5 (l.getD i z41).f3.length c5)).toList) ∧ OpC w (.slice A5 (l.getD i z41).f3.length c5) (l.getD i z41) := by
 obtain ⟨ad, c, e, _, hK, hc⟩ := Kd.C_get h z41 (i : Int) (by omega) (by omega)
 rw [Int.toNat_natCast] at hK hc
 obtain ⟨A5, c5, rfl, l5, g5⟩ := k41_open hK
 refine ⟨ad, A5, c5, e, fun W hb => atL_mk fun j v hj => ?_, opC_mk l5 g5⟩
 have := hc j v hj
 have h2 : W.cell? (ad.add (i * 9 + j)) = some v := pw_cell_below hb this
 have h3 : (ad.add (i * 9)).add (0 + j) = ad.add (i * 9 + j) := by
  by_cases hj0 : j = 0
  · subst hj0
    rfl
  · rw [add_field ad (i * 9) j (by omega)]
    unfold Addr.add
    rw [if_neg (by omega), Nat.zero_add]
 rw [h3]; exact h2
end Go.Proofs.YtloccjkcmlkifaaDoor
end

section
/- xform.Over: an operation carried over a run. -/
namespace Go.Proofs.YtloccjkcmlkifaaDoor
open Go.RowKit Go.Proofs.YtloccjkcmlkifaaDoor.PAll Go.Proofs.YtloccjkcmlkifaaDoorW.PrintWords

section
variable {P : Program} {ops : Array Oper} {rest : List Oper} {o : Oper} {a : Act} {Q : Exit → Act → World → Prop} {W : World}
theorem ev_ext (cs : Array Value) {N : Tmp} {ty : TypeId} {x : Operand} {d : TypeDesc} {ad : Addr} (hc : atL W ad 0 cs.toList)
 (h : wpList P ops Q rest (a.put (some N) (.agg cs)) W)
 (ho : o.op = .load ty x := by rfl) (hx : a.eval x = .pointer (some ad) := by rfl) (hd : o.dst = some N := by rfl)
 (hw : Region.wanted o (yielded ops a.tmps) = true := by first | exact wanted_plain rfl | (refine wanted_on rfl ?_; simp [yielded])) (hu : P.underlying ty = some d := by first | exact Tryd.underlying41 | exact Tryd.underlying100) (hdd : (match d with | .struct _ | .array _ _ => true | _ => false) = true := by rfl) (hi : (P.info? ty).map (·.size) = some cs.size := by kernel_rfl) : wpList P ops Q (o :: rest) a W := by
 have hr := run_load_wide (P := P) W ad ty cs.toList d hc hu hdd (by simpa using hi)
 refine ev_run (v := .agg cs) hw ?_ (by rw [hd]; exact h)
 unfold execOp
 simp only [ho, hx, Instr.loadAt, Instr.sureAddr, Sem.run_bind, Sem.run_pure, Result.andThen_ok, hr]
end

def overF (e : Bool) (s : S41 × Int) (x : S41) : S41 × Int := if s.2 = 0 then incE s.1 x e else s
structure OverAt (err : Int) (o : S41) (e : Bool) (run : List S41) (w : World) (g6 g3 : Nat) (k : Nat) (s : S41 × Int) (A : Option Addr) (c : Nat) (wr : World) : Prop where
 eq : s = (run.take k).foldl (overF e) (o, err)
 st : St w wr [(g6, 41, zA), (g3, 41, opA s.1 (.slice A s.1.f3.length c))] (fun W => True ∧ OpR W w.heap.size (.slice A s.1.f3.length c) s.1)
end Go.Proofs.YtloccjkcmlkifaaDoor
end

section
/- The document's Over answers as the program's. -/
namespace Go.Proofs.YtloccjkcmlkifaaDoor
open Go.RowKit Go.Proofs.YtloccjkcmlkifaaDoor.PAll Go.Proofs.YtloccjkcmlkifaaDoorW.PrintWords Go.Proofs.YtloccjkcmlkifaaDoorW.PrintLast

section
variable {P : Program} {ops : Array Oper} {Q : Exit → Act → World → Prop} {md : Region.Mode} {S : World → Prop} {ds : List Nat} {fuel : Nat} {l : Array Bool} {a a' : Act} {w w0 : World} {oi : Oper} {N : Tmp} {rest : List Oper} {o : Oper} {W : World} {bs : List Bx} {F : World → Prop}
theorem le_ (i : Nat) (cs : Array Value) {ty : TypeId} {x : Operand} {d : TypeDesc} {ad : Addr} (hS : S w) (hcc : ∀ w', S w' → atL w' ad 0 cs.toList)
 (h : wpAnyLast P md ops Q S ds fuel (l.setIfInBounds i true) a' w)
 (hi : ops[i]? = some oi := by rfl) (hN : oi.dst = some N := by rfl) (hc : takeB md ops ds l (l.setIfInBounds i true) i = true := by kernel_rfl)
 (ho : oi.op = .load ty x := by rfl) (hx : a.eval x = .pointer (some ad) := by rfl)
 (hw : Region.wanted oi (yielded ops a.tmps) = true := by first | exact wanted_plain rfl | (refine wanted_on rfl ?_; simp [yielded]))
 (hu : P.underlying ty = some d := by first | exact Tryd.underlying41 | exact Tryd.underlying100) (hdd : (match d with | .struct _ | .array _ _ => true | _ => false) = true := by rfl) (hs : (P.info? ty).map (·.size) = some cs.size := by kernel_rfl)
 (ha : a.put (some N) (.agg cs) = a' := by (simp only [Act.put, List.setIfInBounds_toArray, List.set_cons_zero, List.set_cons_succ]; rfl))
 (hQ : ∀ c a w, Q (.panic c) (a.put oi.dst (.agg cs)) w → Q (.panic c) a w := by exact fun _ _ _ h => h) : wpAnyLast P md ops Q S ds (fuel + 1) l a w :=
 take_ (l.setIfInBounds i true) hi hN hc hQ (.inl ⟨hw, fun w' hS' => by
  have hr := run_load_wide (P := P) w' ad ty cs.toList d (hcc w' hS') hu hdd (by simpa using hs)
  unfold execOp
  simp only [ho, hx, Instr.loadAt, Instr.sureAddr, Sem.run_bind, Sem.run_pure, Result.andThen_ok, hr]⟩) hS ha h
theorem ev_lit (S : Aside0 (St w0 W bs F)) (cs : Array Value) (n : Nat) {ty : TypeId} {xs : Array (Nat × Operand)}
 (h : ∀ g w', Aside0 (St w0 w' ((g, 41, cs) :: bs) F) → wpList P ops Q rest (a.put (some N) (.slice (some ⟨g, 0, none⟩) n n)) w')
 (ho : o.op = .buildSlice ty n xs := by rfl) (hd : o.dst = some N := by rfl) (hw : Region.wanted o (yielded ops a.tmps) = true := by exact wanted_plain rfl)
 (hrun : (execOp a.eval o).run P W = .ok (.value (.slice (some ⟨W.heap.size, 0, none⟩) n n)) (W.alloc (.cells cs 41 (0, 0))) := by first | (go_simp; done) | (go_simp; rfl)) : wpList P ops Q (o :: rest) a W :=
 have _ := ho
 ev_run hw hrun (by rw [hd]; exact h _ _ ⟨S.out.push (below_alloc (Below.refl _ _) _) (blk_new W _) rfl⟩)
end
theorem opA_K {w : World} {v : Value} {o : S41} (h : OpC w v o) : k41.K w o (opA o v).toList := by
 obtain ⟨A, c, rfl, h1, h2⟩ := h
 exact k41_mk w o h1 h2
theorem runC_box2 {w : World} {g : Nat} {v u : Value} {o p : S41} (h : w.heap[g]? = some (.cells (opA o v ++ opA p u) 41 (0, 0))) (ho : OpC w v o) (hp : OpC w u p) : RunC w (.slice (some ⟨g, 0, none⟩) 2 2) [o, p] := by
 refine ⟨some ⟨g, 0, none⟩, 2, rfl, Nat.le_refl _, rfl, by simp, fun _ => ⟨_, rfl, fun j q hj => ?_⟩⟩
 match j, hj with
 | 0, hj =>
  obtain rfl := Option.some.inj hj
  refine ⟨_, rfl, opA_K ho, fun i x hx => ?_⟩
  have hi : i < 9 := (List.getElem?_eq_some_iff.1 hx).1
  rw [add_plain, blk_cell h, ← hx, Nat.zero_mul, Nat.zero_add, Array.getElem?_append_left (by simpa using hi)]
  simp
 | 1, hj =>
  obtain rfl := Option.some.inj hj
  refine ⟨_, rfl, opA_K hp, fun i x hx => ?_⟩
  have e : 1 * k41.sz = 9 := rfl
  rw [add_plain, blk_cell h, ← hx, e, Array.getElem?_append_right (by simp)]
  simp
 | j + 2, hj => simp at hj
end Go.Proofs.YtloccjkcmlkifaaDoor
end

section
/- Two operations that are one are told equal: redraftref04.Equal, and what is made of it. -/
namespace Go.Proofs.YtloccjkcmlkifaaDoor
open Go.RowKit Go.Proofs.YtloccjkcmlkifaaDoor.PAll Go.Proofs.YtloccjkcmlkifaaDoorW.PrintWords Go.Proofs.YtloccjkcmlkifaaDoorW.PrintLast

def Yes (w : World) : Ending → World → Prop := fun e w' => e = .returned (.bool true) ∧ Below w.heap.size w w'
theorem same_loop (l : List S94) (hl : l.length ≤ 4611686018427387904) : ∀ (d k i : Nat), l.length = i + d → d + 1 ≤ k → redraftref04_Same.l0 k l l (i : Int) = some true := by
 intro d
 induction d with
 | zero =>
  intro k i h hk
  obtain ⟨k, rfl⟩ : ∃ m, k = m + 1 := ⟨k - 1, by omega⟩
  rw [redraftref04_Same.l0, if_neg (by omega)]
 | succ d ih =>
  intro k i h hk
  obtain ⟨k, rfl⟩ : ∃ m, k = m + 1 := ⟨k - 1, by omega⟩
  have q1 : (i : Int) < (l.length : Int) := by omega
  have q2 : (0 : Int) ≤ (i : Int) := by omega
  have w : wrap64 ((i : Int) + 1) = ((i + 1 : Nat) : Int) := by rw [wrap_id (by omega) (by omega)]; omega
  rw [redraftref04_Same.l0, if_pos q1, if_pos q2, if_pos q1, if_pos rfl, if_pos rfl, w]
  exact ih k (i + 1) (by omega) (by omega)
theorem same_any (o : S41) (v u : Value) (w : World) (hv : OpC w v o) (hu : OpC w u o) (hl : o.f3.length ≤ 4611686018427387904) :
 Calls Tryd.prog 76 #[v, u] w (Yes w) := by
 obtain ⟨A, c, rfl, h1, h2⟩ := hv
 obtain ⟨B, d, rfl, h3, h4⟩ := hu
 refine (redraftref04_Same.calls (o.f3.length + 1) A c o.f3 B d o.f3 true w h2 h1 h4 h3 ?_).mono fun e w2 h => ⟨h.1, h.2.below⟩
 unfold redraftref04_Same.f
 rw [if_pos rfl]
 exact same_loop o.f3 hl o.f3.length _ 0 (by omega) (Nat.le_refl _)
set_option maxRecDepth 100000 in
set_option maxHeartbeats 8000000 in
theorem equal_any (o : S41) (v u : Value) (w : World) (hv : OpC w v o) (hu : OpC w u o) (hl : o.f3.length ≤ 4611686018427387904) :
 Calls Tryd.prog 65 #[.agg (opA o v), .agg (opA o u)] w (Yes w) := by
 obtain ⟨A, c, rfl, h1, h2⟩ := hv
 obtain ⟨B, d, rfl, h3, h4⟩ := hu
 have S := Aside0.mk (St.init w (F := fun _ => True) (fun _ _ => trivial))
 have HV := Aside0.mk (opC_mk h1 h2); have HU := Aside0.mk (opC_mk h3 h4); have HL := Aside0.mk hl
 clear h1 h2 h3 h4 hl
 go_enter Tryd.func65, Tryd.ntmps65
 go_wp2_with (first | ((go_at_call 76; (with_reducible refine (same_any o _ _ _ (HV.out.below S.out.below) (HU.out.below S.out.below) HL.out).mono ?_); rintro e_ w7 ⟨rfl, hb⟩; replace S := Aside0.mk (S.out.step hb); clear hb); refine Hid.out ?_) | ((with_reducible refine gate_box rfl ?_); refine ev_box S ?_; clear S; intro _ _ S) | ((with_reducible refine gate_load rfl ?_); first | refine ev_load S ?_ | refine ev_fld S ?_) | (go_at_call 76; (with_reducible refine (same_any o _ _ _ (HV.out.below S.out.below) (HU.out.below S.out.below) HL.out).mono ?_); rintro e_ w7 ⟨rfl, hb⟩; replace S := Aside0.mk (S.out.step hb); clear hb))
 refine Lib.hid ?_
 dsimp only [List.append] at *
 go_wp2_with (first | ((with_reducible refine gate_box rfl ?_); refine ev_box S ?_; clear S; intro _ _ S) | ((with_reducible refine gate_load rfl ?_); first | refine ev_load S ?_ | refine ev_fld S ?_) | (go_at_call 76; (with_reducible refine (same_any o _ _ _ (HV.out.below S.out.below) (HU.out.below S.out.below) HL.out).mono ?_); rintro e_ w7 ⟨rfl, hb⟩; replace S := Aside0.mk (S.out.step hb); clear hb))
 go_ret
 exact ⟨rfl, S.out.below⟩
set_option maxRecDepth 100000 in
theorem sameOp_any (o : S41) (v u : Value) (w : World) (hv : OpC w v o) (hu : OpC w u o) (hl : o.f3.length ≤ 4611686018427387904) :
 Calls Tryd.prog 43 #[.agg (opA o v), .agg (opA o u)] w (Yes w) := by
 have S := Aside0.mk (St.init w (F := fun _ => True) (fun _ _ => trivial))
 have HV := Aside0.mk hv; have HU := Aside0.mk hu; have HL := Aside0.mk hl
 clear hv hu hl
 go_enter Tryd.func43, Tryd.ntmps43
 go_wp2_with (first | ((with_reducible refine gate_box rfl ?_); refine ev_box S ?_; clear S; intro _ _ S) | ((with_reducible refine gate_load rfl ?_); refine ev_load S ?_) | (go_at_call 65; (with_reducible refine (equal_any o _ _ _ (HV.out.below S.out.below) (HU.out.below S.out.below) HL.out).mono ?_); rintro e_ w7 ⟨rfl, hb⟩; replace S := Aside0.mk (S.out.step hb); clear hb))
 go_ret
 exact ⟨rfl, S.out.below⟩
theorem num_any (e : Int) (w : World) : Calls Tryd.prog 23 #[.int .i64 e] w fun e' w' => e' = .returned (.int .i64 e) ∧ Below w.heap.size w w' := by
 go_enter Tryd.func23, Tryd.ntmps23
 go_wp2
 go_ret
 exact ⟨rfl, Below.refl _ _⟩
end Go.Proofs.YtloccjkcmlkifaaDoor
end

section
/- A script's step as a value; what the laws ask of two answers that are one. -/
namespace Go.Proofs.YtloccjkcmlkifaaDoor
open Go.RowKit Go.Proofs.YtloccjkcmlkifaaDoor.PAll Go.Proofs.YtloccjkcmlkifaaDoorW.PrintWords Go.Proofs.YtloccjkcmlkifaaDoorW.PrintLast

abbrev stA (s : S100) (va vb vr vo : Value) : Array Value := #[.int .i64 s.f0, .int .i64 s.f1.f0.f0.f0, .int .i64 s.f1.f0.f0.f1, .int .i64 s.f1.f0.f1, .int .i64 s.f1.f1, .string s.f1.f2, va, .int .i64 s.f1.f4.f0, .int .i64 s.f1.f4.f1, .bool s.f1.f5,
 .int .i64 s.f2.f0.f0.f0, .int .i64 s.f2.f0.f0.f1, .int .i64 s.f2.f0.f1, .int .i64 s.f2.f1, .string s.f2.f2, vb, .int .i64 s.f2.f4.f0, .int .i64 s.f2.f4.f1, .bool s.f2.f5, vr, vo, .bool s.f5, .int .i64 s.f6, .int .i64 s.f7]
structure StepC (w : World) (va vb vr vo : Value) (s : S100) : Prop where
 a : OpC w va s.f1
 b : OpC w vb s.f2
 r : RunC w vr s.f3
 o : RunC w vo s.f4
theorem StepC.below {w w' : World} {va vb vr vo : Value} {s : S100} (h : StepC w va vb vr vo s) (hb : Below w.heap.size w w') : StepC w' va vb vr vo s := ⟨h.a.below hb, h.b.below hb, h.r.below hb, h.o.below hb⟩
theorem atL_sub {w : World} {g : Nat} {t : TypeId} {cs : Array Value} (h : w.heap[g]? = some (.cells cs t (0, 0))) (j : Nat) (sub : List Value) (hs : sub = (cs.toList.drop j).take sub.length) : atL w ⟨g, j, none⟩ 0 sub :=
 atL_mk fun i v hv => by
  have hadd : (⟨g, j, none⟩ : Addr).add (0 + i) = ⟨g, j + i, none⟩ := by
   rw [Nat.zero_add]; unfold Addr.add
   by_cases hi0 : i = 0
   · rw [if_pos hi0, hi0, Nat.add_zero]
   · rw [if_neg hi0]
  rw [hadd, blk_cell h]
  rw [hs] at hv
  have hi : i < sub.length := by
   have := (List.getElem?_eq_some_iff.1 hv).1
   simp at this; omega
  rw [List.getElem?_take_of_lt hi, List.getElem?_drop] at hv
  simpa using hv
section
variable {P : Program} {ops : Array Oper} {rest : List Oper} {o : Oper} {a a' : Act} {Q : Exit → Act → World → Prop} {w0 W w : World} {bs : List Bx} {F : World → Prop} {g : Nat} {t : TypeId} {cs : Array Value}
variable {md : Region.Mode} {S : World → Prop} {ds : List Nat} {fuel : Nat} {l : Array Bool} {oi : Oper} {N : Tmp}
end
theorem foot_S {α : Type} {d : Kd α} {e : Nat} {w : World} {base : Nat} {v : Value} {xs : List α} (h : Kd.S d e w base (fun _ => True) v xs) : Foot (fun W => Kd.S d e W base (fun _ => True) v xs) w (fun k => base ≤ k) := by
 obtain ⟨f, h⟩ := h
 exact fun W' hW => ⟨f, foot_R h W' hW⟩
theorem St.addS {α : Type} {d : Kd α} {e : Nat} {w0 w w' : World} {bs : List Bx} {F : World → Prop} {v : Value} {xs : List α} (S : St w0 w bs F) (hb : Below w.heap.size w w') (h : Kd.S d e w' w.heap.size (fun _ => True) v xs) : St w0 w' bs (fun W => F W ∧ Kd.S d e W w0.heap.size (fun _ => True) v xs) :=
 S.add hb fun W' hW => Kd.S_lower (foot_S h W' hW) S.below.size
def OwnRun (w : World) (base : Nat) (v : Value) (l : List S41) : Prop := Kd.S k41 41 w base (fun _ => True) v l
theorem OwnRun.C {w : World} {base : Nat} {v : Value} {l : List S41} (h : OwnRun w base v l) : RunC w v l := Kd.S_reads h
theorem copyRun_loop (l : List S41) (hf : ∀ o ∈ l, fineOp o) (hl : l.length ≤ 1048576) : ∀ (d k i : Nat), l.length = i + d → d + 1 ≤ k → redraftref05_CopyRun.l0 k l (l.take i) (i : Int) = some l := by
 intro d
 induction d with
 | zero =>
  intro k i h hk
  obtain ⟨k, rfl⟩ : ∃ m, k = m + 1 := ⟨k - 1, by omega⟩
  rw [redraftref05_CopyRun.l0, if_neg (by omega), List.take_of_length_le (by omega)]
 | succ d ih =>
  intro k i h hk
  obtain ⟨k, rfl⟩ : ∃ m, k = m + 1 := ⟨k - 1, by omega⟩
  have hi : i < l.length := by omega
  have q1 : (i : Int) < (l.length : Int) := by omega
  have q2 : (0 : Int) ≤ (i : Int) := by omega
  have q3 : (l.take i).length < 1466015503701 := by simp; omega
  have w : wrap64 ((i : Int) + 1) = ((i + 1 : Nat) : Int) := by rw [wrap_id (by omega) (by omega)]; omega
  obtain ⟨o, ho⟩ : ∃ o, o = l[i] := ⟨_, rfl⟩
  have e : rd_T41 l (i : Int) = o := by unfold rd_T41; rw [Int.toNat_natCast, List.getD_eq_getElem?_getD, List.getElem?_eq_getElem hi, ho]; rfl
  have hfo := hf o (by rw [ho]; exact List.getElem_mem hi)
  rw [redraftref05_CopyRun.l0, if_pos q1, if_pos q2, e, copy_is o hfo]
  simp only [Option.bind_some]
  rw [if_pos q3, w]
  have := ih k (i + 1) (by omega) (by omega)
  rw [List.take_succ_eq_append_getElem hi, ← ho] at this
  exact this
theorem copyRun_any (l : List S41) (v : Value) (w : World) (h : RunC w v l) (hf : ∀ o ∈ l, fineOp o) (hl : l.length ≤ 1048576) :
 Calls Tryd.prog 36 #[v] w fun e w' => ∃ u, e = .returned u ∧ OwnRun w' w.heap.size u l ∧ Below w.heap.size w w' := by
 obtain ⟨A, c, rfl, h1, h2⟩ := h
 have := copyRun_loop l hf hl l.length (l.length + 1) 0 (by omega) (by omega)
 exact redraftref05_CopyRun.calls (l.length + 1) A c l l w h2 h1 (by unfold redraftref05_CopyRun.f; exact this)
end Go.Proofs.YtloccjkcmlkifaaDoor
end

section
/- A run of the walk's own lies in one box: its operations are read and written there. -/
namespace Go.Proofs.YtloccjkcmlkifaaDoor
open Go.RowKit Go.Proofs.YtloccjkcmlkifaaDoor.PAll Go.Proofs.YtloccjkcmlkifaaDoorW.PrintWords Go.Proofs.YtloccjkcmlkifaaDoorW.PrintLast

abbrev fineRun (l : List S41) : Prop := l.length ≤ 1048576 ∧ ∀ o ∈ l, fineOp o
abbrev OV := S41 × Value
def cellsP (p : List OV) : List Value := p.flatMap fun x => (opA x.1 x.2).toList
theorem cellsP_app (p q : List OV) : cellsP (p ++ q) = cellsP p ++ cellsP q := List.flatMap_append
theorem cellsP_cons (x : OV) (q : List OV) : cellsP (x :: q) = (opA x.1 x.2).toList ++ cellsP q := List.flatMap_cons
theorem cellsP_len : ∀ p : List OV, (cellsP p).length = p.length * 9
 | [] => rfl
 | x :: t => by
  rw [cellsP_cons, List.length_append, cellsP_len t]
  show 9 + t.length * 9 = (t.length + 1) * 9
  omega
abbrev OwnP (base : Nat) (p : List OV) (W : World) : Prop := ∀ x ∈ p, OpR W base x.2 x.1
def RunAt (bs : List Bx) (i : Nat) (v : Value) (p : List OV) : Prop :=
 (v = .slice none 0 0 ∧ p = []) ∨ ∃ g c rest, v = .slice (some ⟨g, 0, none⟩) p.length c ∧ p.length ≤ c ∧ bs[i]? = some (g, 41, (cellsP p ++ rest).toArray)
theorem RunAt.cons {bs : List Bx} {i : Nat} {v : Value} {p : List OV} (h : RunAt bs i v p) (b : Bx) : RunAt (b :: bs) (i + 1) v p := by
 rcases h with h | ⟨g, c, rest, h1, h2, h3⟩
 · exact .inl h
 · exact .inr ⟨g, c, rest, h1, h2, by rw [List.getElem?_cons_succ]; exact h3⟩
theorem RunAt.tail {b : Bx} {bs : List Bx} {i : Nat} {v : Value} {p : List OV} (h : RunAt (b :: bs) (i + 1) v p) : RunAt bs i v p := by
 rcases h with h | ⟨g, c, rest, h1, h2, h3⟩
 · exact .inl h
 · exact .inr ⟨g, c, rest, h1, h2, by rw [List.getElem?_cons_succ] at h3; exact h3⟩
theorem RunAt.slice {bs : List Bx} {i : Nat} {v : Value} {p : List OV} (h : RunAt bs i v p) : ∃ A c, v = .slice A p.length c := by
 rcases h with ⟨h, rfl⟩ | ⟨g, c, rest, h1, h2, h3⟩
 · exact ⟨none, 0, h⟩
 · exact ⟨_, c, h1⟩
theorem RunAt.at_ {bs : List Bx} {i n c : Nat} {A : Option Addr} {pd pr : List OV} {x : OV} (h : RunAt bs i (.slice A n c) (pd ++ x :: pr)) :
 ∃ g rest, A = some ⟨g, 0, none⟩ ∧ n = (pd ++ x :: pr).length ∧ n ≤ c ∧ bs[i]? = some (g, 41, (cellsP (pd ++ x :: pr) ++ rest).toArray) := by
 rcases h with ⟨_, h⟩ | ⟨g, c', rest, h1, h2, h3⟩
 · simp at h
 · injection h1 with e1 e2 e3
   exact ⟨g, rest, e1, e2, by omega, h3⟩
theorem run_cells (pd pr : List OV) (x : OV) (rest : List Value) : (opA x.1 x.2).toList = ((cellsP (pd ++ x :: pr) ++ rest).drop (pd.length * 9)).take (opA x.1 x.2).toList.length := by
 rw [cellsP_app, cellsP_cons, List.append_assoc, ← cellsP_len pd, List.drop_left, List.append_assoc, List.take_left]
theorem St.atRun {w0 w : World} {bs : List Bx} {F : World → Prop} (S : St w0 w bs F) {i n c : Nat} {ad : Addr} {pd pr : List OV} {x : OV} (h : RunAt bs i (.slice (some ad) n c) (pd ++ x :: pr)) : atL w (ad.add (pd.length * 9)) 0 (opA x.1 x.2).toList := by
 obtain ⟨g, rest, e, _, _, h3⟩ := h.at_
 obtain rfl := Option.some.inj e
 rw [add_plain]
 exact atL_sub (S.at_ i h3) _ _ (run_cells pd pr x rest)
theorem blk_setMid {g : Nat} {t : TypeId} : ∀ (vs : List Value) (pre old suf : List Value) (W : World), W.heap[g]? = some (.cells (pre ++ (old ++ suf)).toArray t (0, 0)) → old.length = vs.length →
 (W.setCells g pre.length vs).heap[g]? = some (.cells (pre ++ (vs ++ suf)).toArray t (0, 0))
 | [], pre, old, suf, W, h, hl => by
  obtain rfl : old = [] := by simpa using hl
  exact h
 | _ :: _, _, [], _, _, _, hl => by simp at hl
 | v :: r, pre, u :: q, suf, W, h, hl => by
  show ((W.setCell ⟨g, pre.length, none⟩ v).setCells g (pre.length + 1) r).heap[g]? = _
  have h1 : (W.setCell ⟨g, pre.length, none⟩ v).heap[g]? = some (.cells ((pre ++ [v]) ++ (q ++ suf)).toArray t (0, 0)) := by
   rw [blk_set h]
   congr 2
   simp
  have := blk_setMid r (pre ++ [v]) q suf (W.setCell ⟨g, pre.length, none⟩ v) h1 (by simpa using hl)
  simpa using this
theorem St.putRun {w0 w : World} {bs : List Bx} {F : World → Prop} (S : St w0 w bs F) {i n c : Nat} {g : Nat} {pd pr : List OV} {x : OV} (h : RunAt bs i (.slice (some ⟨g, 0, none⟩) n c) (pd ++ x :: pr)) (y : OV) :
 ∃ B, St w0 (w.setCells g (pd.length * 9) (opA y.1 y.2).toList) (bs.set i B) F ∧ RunAt (bs.set i B) i (.slice (some ⟨g, 0, none⟩) n c) (pd ++ y :: pr) ∧ ∀ j u q, j ≠ i → RunAt bs j u q → RunAt (bs.set i B) j u q := by
 obtain ⟨g', rest, e, hn, hc, h3⟩ := h.at_
 have e' := Option.some.inj e
 injection e' with e'
 subst e'
 have hi : i < bs.length := (List.getElem?_eq_some_iff.1 h3).1
 have hb := S.at_ i h3
 refine ⟨(g, 41, (cellsP (pd ++ y :: pr) ++ rest).toArray), S.put i h3 (below_setCells _ _ _ S.below (S.ge i h3)) ?_ (fun k hk => setCells_far _ _ _ k hk), .inr ⟨g, c, rest, ?_, ?_, ?_⟩, fun j u q hj hr => ?_⟩
 · have := blk_setMid (g := g) (t := 41) (opA y.1 y.2).toList (cellsP pd) (opA x.1 x.2).toList (cellsP pr ++ rest) w (by rw [hb, cellsP_app, cellsP_cons]; simp only [List.append_assoc]) rfl
   rw [cellsP_len] at this
   rw [this, cellsP_app, cellsP_cons]
   simp only [List.append_assoc]
 · rw [hn]; simp
 · rw [hn] at hc; simpa using hc
 · rw [List.getElem?_set_self hi]
 · rcases hr with hr | ⟨g2, c2, r2, q1, q2, q3⟩
   · exact .inl hr
   · exact .inr ⟨g2, c2, r2, q1, q2, by rw [List.getElem?_set_ne (Ne.symm hj)]; exact q3⟩
section
variable {P : Program} {ops : Array Oper} {rest : List Oper} {o : Oper} {a : Act} {Q : Exit → Act → World → Prop} {w0 W : World} {bs : List Bx} {F : World → Prop} {g : Nat} {t : TypeId} {cs : Array Value}
theorem ev_put (S : Aside0 (St w0 W bs F)) {i n c : Nat} {ad : Addr} {pd pr : List OV} {x : OV} (HR : Aside0 (RunAt bs i (.slice (some ad) n c) (pd ++ x :: pr))) (y : OV) {p : Tmp} {v : Operand} {k : Nat}
 (h : ∀ w' B, Aside0 (St w0 w' (bs.set i B) F) → Aside0 (RunAt (bs.set i B) i (.slice (some ad) n c) (pd ++ y :: pr)) → (∀ j u q, j ≠ i → RunAt bs j u q → RunAt (bs.set i B) j u q) → wpList P ops Q rest a w')
 (hk : pd.length = k := by rfl) (ho : o.op = .store 41 (.tmp p) v := by rfl) (hp : a.eval (.tmp p) = .pointer (some (ad.add (k * 9))) := by rfl) (hv : a.eval v = .agg (opA y.1 y.2) := by rfl) (hN : o.dst = none := by rfl)
 (hw : Region.wanted o (yielded ops a.tmps) = true := by exact wanted_plain rfl) (hi : (P.info? 41).map (·.size) = some 9 := by kernel_rfl) (hone : (opA y.1 y.2).toList.all (·.oneCell') = true := by rfl) : wpList P ops Q (o :: rest) a W := by
 obtain ⟨g, r, e, hn, hc, h3⟩ := HR.out.at_
 obtain rfl := Option.some.inj e
 have hb := S.out.at_ i h3
 rw [add_plain, ← hk] at hp
 obtain ⟨B, h1, h2, h4⟩ := S.out.putRun HR.out y
 have hth : W.there g (pd.length * 9) (opA y.1 y.2).size := fun j hj => ⟨by
  have hlt : pd.length * 9 + j < (cellsP (pd ++ x :: pr) ++ r).length := by
   rw [List.length_append, cellsP_len, List.length_append, List.length_cons]
   have : j < 9 := hj
   omega
  rw [blk_cell hb, List.getElem?_toArray, List.getElem?_eq_getElem hlt]
  rfl, blk_frozen hb _⟩
 have hrun : (execOp a.eval o).run P W = .ok .skip (W.setCells g (pd.length * 9) (opA y.1 y.2).toList) := by
  unfold execOp
  simp only [ho, hp, hv, Sem.run_bind, Sem.run_pure, Result.andThen_ok, run_storeAt_mid W g (pd.length * 9) 41 (opA y.1 y.2) hth hi (by rw [← Array.all_toList]; exact hone)]
 exact ev_skip hw hN hrun (h _ B ⟨h1⟩ ⟨h2⟩ h4)
end
theorem St.addBox {w0 w w' : World} {bs : List Bx} {F F2 : World → Prop} {g : Nat} {t : TypeId} {cs : Array Value} (S : St w0 w bs F) (hb : Below w.heap.size w w') (hn : w'.heap[g]? = some (.cells cs t (0, 0))) (hg : w.heap.size ≤ g) (h2 : Foot F2 w' (fun k => w.heap.size ≤ k ∧ k ≠ g)) : St w0 w' ((g, t, cs) :: bs) (fun W => F W ∧ F2 W) := by
 have S' := S.step hb
 have hlt : ∀ k ∈ bs.map (·.1), k < w.heap.size := fun k hk => by
  obtain ⟨b, hb', rfl⟩ := List.mem_map.1 hk
  exact S.lt b hb'
 refine ⟨S'.below, fun b hm => ?_, ?_, fun W' hW => ⟨((S.foot.old hb).mono fun k hk hm => ?_) W' hW, (h2.mono fun k hk hm => ?_) W' hW⟩⟩
 · rcases List.mem_cons.1 hm with rfl | hm
   · exact ⟨hn, Nat.le_trans S.below.size hg⟩
   · exact S'.box b hm
 · rw [List.map_cons, List.nodup_cons]
   exact ⟨fun hm => by have := hlt _ hm; have e : g < w.heap.size := this; omega, S.nd⟩
 · rcases List.mem_cons.1 hm with h | h
   · have e : k = g := h
     have := hk.2
     omega
   · exact hk.1 h
 · rcases List.mem_cons.1 hm with h | h
   · exact hk.2 h
   · have := hlt _ h
     have := hk.1
     omega
theorem ownP_foot {w : World} {base : Nat} {ok : Nat → Prop} {p : List OV} (h : ∀ x ∈ p, Kd.R k94 94 w base ok x.2 x.1.f3) : Foot (OwnP base p) w (fun k => base ≤ k ∧ ok k) := fun _ hW x hx =>
 Kd.R_mono (Kd.R_move (Kd.R_bound (h x hx)) (fun k hk => hW k ⟨hk.2.1, hk.1⟩ hk.2.2.1)) (fun _ _ => trivial)
theorem ownP_lower {w : World} {base base' : Nat} {p : List OV} (h : OwnP base p w) (hb : base' ≤ base) : OwnP base' p w := fun x hx => Kd.R_lower (h x hx) hb
theorem reps_pairs {w : World} {base : Nat} {ok : Nat → Prop} : ∀ {l : List S41} {cs : List Value}, Reps (k41.M w base ok) 9 l cs → ∃ p : List OV, p.map (·.1) = l ∧ cs = cellsP p ∧ ∀ x ∈ p, Kd.R k94 94 w base ok x.2 x.1.f3
 | [], cs, h => ⟨[], rfl, by
  have := h.1
  exact List.length_eq_zero_iff.1 (by simpa using this), by simp⟩
 | o :: t, cs, h => by
  have h0 := h.2 0 o rfl
  rw [Nat.zero_mul, List.drop_zero] at h0
  obtain ⟨v5, e5, hv5⟩ := k41_openM h0
  have ht : Reps (k41.M w base ok) 9 t (cs.drop 9) := ⟨by rw [List.length_drop, h.1, List.length_cons]; omega, fun j p hj => by
   have := h.2 (j + 1) p (by simpa using hj)
   rw [List.drop_drop]
   rw [show 9 + j * 9 = (j + 1) * 9 by omega]
   exact this⟩
  obtain ⟨p, hp1, hp2, hp3⟩ := reps_pairs ht
  refine ⟨(o, v5) :: p, by rw [List.map_cons, hp1], ?_, fun x hx => ?_⟩
  · rw [cellsP_cons, ← hp2, ← List.take_append_drop 9 cs, e5]
    simp
  · rcases List.mem_cons.1 hx with rfl | hx
    · exact hv5
    · exact hp3 x hx
theorem St.addRun {w0 w w' : World} {bs : List Bx} {F : World → Prop} {v u : Value} {l : List S41} {i : Nat} {q : List OV} (S : St w0 w bs F) (hb : Below w.heap.size w w') (h : OwnRun w' w.heap.size v l) (A : RunAt bs i u q) :
 ∃ p bs' i' j, p.map (·.1) = l ∧ j ≠ i' ∧ RunAt bs' i' u q ∧ RunAt bs' j v p ∧ St w0 w' bs' (fun W => F W ∧ OwnP w0.heap.size p W) := by
 obtain ⟨h0, inner, ho, hr⟩ := Kd.S_R h
 obtain ⟨p, hp1, hp2, hp3⟩ := reps_pairs hr
 have hpl : p.length = l.length := by rw [← hp1, List.length_map]
 rcases ho.2 with ⟨rfl, hl⟩ | ⟨g, cap, cur, rfl, hg, hh, hcap, _, hcs, hct⟩
 · obtain rfl : p = [] := List.length_eq_zero_iff.1 (hpl.trans hl)
   exact ⟨[], bs, i, i + 1, hp1, by omega, A, .inl ⟨rfl, rfl⟩, (S.step hb).weak fun _ h => ⟨h, by simp [OwnP]⟩⟩
 · have hcur : cur = (cellsP p ++ cur.toList.drop (l.length * 9)).toArray := by
    have hct' : List.take (l.length * 9) cur.toList = inner := hct
    rw [← hp2, ← hct', List.take_append_drop]
   refine ⟨p, (g, 41, cur) :: bs, i + 1, 0, hp1, by omega, A.cons _, .inr ⟨g, cap, cur.toList.drop (l.length * 9), by rw [hpl], by omega, by rw [← hcur]; rfl⟩, S.addBox hb hh hg (((ownP_foot hp3).imp fun W hW => ownP_lower hW S.below.size).mono fun k hk => ⟨hk.1, fun e => hk.2.2 (by rw [e]; rfl)⟩)⟩
def RunR (w : World) (base : Nat) (v : Value) (l : List S41) : Prop := Foot (fun W => RunC W v l) w (fun k => base ≤ k)
theorem RunR.C {w : World} {base : Nat} {v : Value} {l : List S41} (h : RunR w base v l) : RunC w v l := Foot.now h
theorem runR_nil (w : World) (base : Nat) : RunR w base (.slice none 0 0) [] := fun _ _ => ⟨none, 0, rfl, Nat.le_refl _, rfl, by simp, fun h => absurd h (by simp)⟩
theorem run_C {W : World} {base : Nat} {g c : Nat} {p : List OV} {rest : List Value} (hp : OwnP base p W) (hh : W.heap[g]? = some (.cells (cellsP p ++ rest).toArray 41 (0, 0))) (hc : p.length ≤ c) (hn : p.length ≤ 1048576) : RunC W (.slice (some ⟨g, 0, none⟩) p.length c) (p.map (·.1)) := by
 refine ⟨some ⟨g, 0, none⟩, c, by rw [List.length_map], by rw [List.length_map]; exact hc, rfl, by rw [List.length_map]; omega, fun _ => ⟨_, rfl, fun j o hj => ?_⟩⟩
 rw [List.getElem?_map] at hj
 obtain ⟨x, hx, rfl⟩ := Option.map_eq_some_iff.1 hj
 obtain ⟨hjl, hjx⟩ := List.getElem?_eq_some_iff.1 hx
 have hm : x ∈ p := List.mem_of_getElem? hx
 refine ⟨(opA x.1 x.2).toList, rfl, opA_K (hp x hm).C, fun k u hu => ?_⟩
 have hsplit : p = p.take j ++ x :: p.drop (j + 1) := by
  rw [← hjx, ← List.drop_eq_getElem_cons hjl, List.take_append_drop]
 have hk : k < 9 := (List.getElem?_eq_some_iff.1 hu).1
 have hc2 := run_cells (p.take j) (p.drop (j + 1)) x rest
 rw [← hsplit, List.length_take, Nat.min_eq_left (by omega)] at hc2
 rw [add_plain, blk_cell hh, ← hu, hc2]
 rw [List.getElem?_take_of_lt (show k < (opA x.1 x.2).toList.length from hk), List.getElem?_drop, List.getElem?_toArray]
 rfl
theorem RunAt.R {w0 w : World} {bs : List Bx} {F : World → Prop} {i : Nat} {v : Value} {p : List OV} (h : RunAt bs i v p) (S : St w0 w bs F) (hp : OwnP w0.heap.size p w) (hn : p.length ≤ 1048576) : RunR w w0.heap.size v (p.map (·.1)) := by
 rcases h with ⟨rfl, rfl⟩ | ⟨g, c, rest, rfl, hc, hi⟩
 · exact runR_nil _ _
 · intro W hW
   refine run_C (base := w0.heap.size) (rest := rest) (fun x hx => Kd.R_mono (Kd.R_move (Kd.R_bound (hp x hx)) (fun k hk => hW k hk.2.1 hk.2.2.1)) (fun _ _ => trivial)) ?_ hc hn
   have hb := S.at_ i hi
   exact (hW g (S.ge i hi) (blk_lt hb)).trans hb
theorem clones_loop (l : List S41) (hf : ∀ o ∈ l, fineOp o) (hl : l.length ≤ 1048576) : ∀ (d k i : Nat), l.length = i + d → d + 1 ≤ k → xform_clones.l0 k (l.take i) l (l.length : Int) (i : Int) = some l := by
 intro d
 induction d with
 | zero =>
  intro k i h hk
  obtain ⟨k, rfl⟩ : ∃ m, k = m + 1 := ⟨k - 1, by omega⟩
  rw [xform_clones.l0, if_neg (by omega), List.take_of_length_le (by omega)]
 | succ d ih =>
  intro k i h hk
  obtain ⟨k, rfl⟩ : ∃ m, k = m + 1 := ⟨k - 1, by omega⟩
  have hi : i < l.length := by omega
  have q1 : (i : Int) < (l.length : Int) := by omega
  have q2 : (0 : Int) ≤ (i : Int) := by omega
  have q3 : (l.take i).length < 1466015503701 := by simp; omega
  have w : wrap64 ((i : Int) + 1) = ((i + 1 : Nat) : Int) := by rw [wrap_id (by omega) (by omega)]; omega
  obtain ⟨o, ho⟩ : ∃ o, o = l[i] := ⟨_, rfl⟩
  have e : rd_T41 l (i : Int) = o := by unfold rd_T41; rw [Int.toNat_natCast, List.getD_eq_getElem?_getD, List.getElem?_eq_getElem hi, ho]; rfl
  have hfo := hf o (by rw [ho]; exact List.getElem_mem hi)
  rw [xform_clones.l0, if_pos q1, if_pos q2, if_pos q1, e, clone_f o hfo.2]
  simp only [Option.bind_some]
  rw [if_pos q3, w]
  have := ih k (i + 1) (by omega) (by omega)
  rw [List.take_succ_eq_append_getElem hi, ← ho] at this
  exact this
theorem clones_any (l : List S41) (v : Value) (w : World) (h : RunC w v l) (hf : ∀ o ∈ l, fineOp o) (hl : l.length ≤ 1048576) :
 Calls Tryd.prog 61 #[v] w fun e w' => ∃ u, e = .returned u ∧ OwnRun w' w.heap.size u l ∧ Below w.heap.size w w' := by
 obtain ⟨A, c, rfl, h1, h2⟩ := h
 have := clones_loop l hf hl l.length (l.length + 1) 0 (by omega) (by omega)
 exact xform_clones.calls (l.length + 1) A c l l w h2 h1 (by unfold xform_clones.f; rw [if_pos (by omega)]; exact this)
end Go.Proofs.YtloccjkcmlkifaaDoor
end

section
/- Cross, as both sides have it; the program's. -/
namespace Go.Proofs.YtloccjkcmlkifaaDoor
open Go.RowKit Go.Proofs.YtloccjkcmlkifaaDoor.PAll Go.Proofs.YtloccjkcmlkifaaDoorW.PrintWords Go.Proofs.YtloccjkcmlkifaaDoorW.PrintLast

def cin : List S41 → List S41 → S41 → (List S41 × S41) × Int
 | fd, [], l => ((fd, l), 0)
 | fd, f :: fr, l => if (incE l f true).2 ≠ 0 then (([], z41), (incE l f true).2) else if (incE f l false).2 ≠ 0 then (([], z41), (incE f l false).2) else cin (fd ++ [(incE f l false).1]) fr (incE l f true).1
def cout : List S41 → List S41 → List S41 → (List S41 × List S41) × Int
 | fs, ld, [] => ((fs, ld), 0)
 | fs, ld, l :: lr => if (cin [] fs l).2 ≠ 0 then (([], []), (cin [] fs l).2) else cout (cin [] fs l).1.1 (ld ++ [(cin [] fs l).1.2]) lr
abbrev goodP (p : List OV) : Prop := ∀ x ∈ p, Good x.1
theorem goodP_of {l : List S41} {p : List OV} (hp : p.map (·.1) = l) (h : ∀ o ∈ l, Good o) : goodP p := fun x hx => h _ (by rw [← hp]; exact List.mem_map_of_mem hx)
theorem cnt_wrap {n : Nat} (h : n < 1048576) : wrap64 ((n : Int) + 1) = (n : Int) + 1 := wrap_id (by omega) (by omega)
theorem cnt_step {n : Nat} (h : n < 1048576) : Value.int .i64 (wrap64 ((n : Int) + 1)) = Value.int .i64 ((n + 1 : Nat) : Int) := by rw [cnt_wrap h]; rfl
theorem cnt_less {n m : Nat} (h : n < 1048576) (h2 : n < m) : m - (intOf (.int .i64 (wrap64 ((n : Int) + 1)))).toNat < m - (intOf (.int .i64 (n : Int))).toNat := by
 rw [cnt_wrap h]
 show m - ((n : Int) + 1).toNat < m - (n : Int).toNat
 omega
structure CrossO (w : World) (R : (List S41 × List S41) × Int) (Af Al : Option Addr) (cf cl nf nl : Nat) (bs : List Bx) (i j : Nat) (pf pd pr : List OV) (wr : World) : Prop where
 ne : j ≠ i
 f : RunAt bs i (.slice Af nf cf) pf
 l : RunAt bs j (.slice Al nl cl) (pd ++ pr)
 st : St w wr bs (fun W => OwnP w.heap.size pf W ∧ OwnP w.heap.size (pd ++ pr) W)
 gf : goodP pf
 gl : goodP (pd ++ pr)
 nf : pf.length = nf
 nl : (pd ++ pr).length = nl
 eq : R = cout (pf.map (·.1)) (pd.map (·.1)) (pr.map (·.1))
structure CrossI (w : World) (R : (List S41 × S41) × Int) (Af Al : Option Addr) (cf cl nf nl : Nat) (pd pr : List OV) (bs : List Bx) (i j : Nat) (fd fr : List OV) (x : OV) (wr : World) : Prop where
 ne : j ≠ i
 f : RunAt bs i (.slice Af nf cf) (fd ++ fr)
 l : RunAt bs j (.slice Al nl cl) (pd ++ x :: pr)
 st : St w wr bs (fun W => OwnP w.heap.size (fd ++ fr) W ∧ OwnP w.heap.size (pd ++ x :: pr) W)
 gf : goodP (fd ++ fr)
 gl : goodP (pd ++ x :: pr)
 nf : (fd ++ fr).length = nf
 nl : (pd ++ x :: pr).length = nl
 eq : R = cin (fd.map (·.1)) (fr.map (·.1)) x.1
end Go.Proofs.YtloccjkcmlkifaaDoor
end

section
/- xform.exclude, told of whole operations. -/
namespace Go.Proofs.YtloccjkcmlkifaaDoor
open Go.RowKit Go.Proofs.YtloccjkcmlkifaaDoor.PAll Go.Proofs.YtloccjkcmlkifaaDoorW.PrintWords

attribute [local go_sem high] eqA35 idx35_0 idx35_1
def aimB (a b : S41) : Bool := a.f4.f0 == b.f0.f0.f0 && a.f4.f1 == b.f0.f0.f1
def excP (a b : S41) (r : List S94 × List S94 × Int) : S41 × Int :=
 if clashB a b = true then (z41, 50) else if a.f0.f1 = 4 then (if aimB a b = true then (z41, 23) else (a, 0)) else if b.f0.f1 ≠ 1 then (a, 0)
 else if a.f0.f1 = 1 then (if a.f1 ≤ b.f1 then (a, 0) else if b.f1 + wid b ≤ a.f1 then moveE a (a.f1 - wid b) else (z41, 23))
 else rangedE a (r.1, if r.2.2 = 0 ∧ 0 < r.2.1.length then 23 else r.2.2)

set_option maxRecDepth 100000 in
set_option maxHeartbeats 4000000 in
theorem exclude_any (a b : S41) (va vb : Value) (r : List S94 × List S94 × Int) (w : World) (hG : GW w) (ha : OpC w va a) (hb : OpC w vb b) (hl : a.f3.length ≤ 1048576)
 (hp : 0 ≤ a.f1 ∧ a.f1 ≤ 1048576) (hpb : 0 ≤ b.f1 ∧ b.f1 ≤ 1048576) (hwa : 0 ≤ wid a ∧ wid a ≤ 1048576) (hwb : 0 ≤ wid b ∧ wid b ≤ 1048576)
 (hr : a.f0.f1 ≠ 1 → a.f0.f1 ≠ 4 → b.f0.f1 = 1 → ∃ k, span_Back.f k a.f3 b.f1 (wid b) = some r) :
 Calls Tryd.prog 75 #[.agg (opA a va), .agg (opA b vb)] w (RetOp w (excP a b r)) := by
 obtain ⟨A, c, rfl, h1, h2⟩ := ha
 obtain ⟨B, d, rfl, h3, h4⟩ := hb
 have S := Aside0.mk (St.init w (F := fun _ => True) (fun _ _ => trivial))
 have H1 := Aside0.mk h1; have H2 := Aside0.mk h2
 have HA := Aside0.mk (opC_mk h1 h2); have HB := Aside0.mk (opC_mk h3 h4)
 have HG := Aside0.mk hG
 clear h1 h2 h3 h4 hG
 unfold excP
 by_cases hcl : clashB a b = true
 · rw [if_pos hcl]
   have HC := Aside0.mk hcl
   clear hcl hr
   go_enter Tryd.func75, Tryd.ntmps75
   go_wp2_with (first | ((with_reducible refine gate_box rfl ?_); refine ev_box S ?_; clear S; intro _ _ S) | ((with_reducible refine gate_new rfl ?_); refine ev_new S 41 zA ?_; clear S; intro _ _ S) | ((with_reducible refine gate_load rfl ?_); first | refine ev_load S ?_ | refine ev_fld S ?_) | ((with_reducible refine gate_st rfl ?_); refine ev_store S ?_; clear S; intro _ S) | (go_at_call 71; (with_reducible refine (clash_any a b _ _ _ _ (HA.out.below S.out.below) (HB.out.below S.out.below) HC.out).mono ?_); rintro e w7 ⟨rfl, hb⟩; replace S := Aside0.mk (S.out.step hb); clear hb))
   exact bodyPost_ret (results_ct rfl _ _ _ 41 zA (0, 0) _ rfl (S.out.at_ 0 rfl) Tryd.underlying41 rfl (by kernel_rfl)) rfl ⟨.slice none 0 0, rfl, opR_nil _ _, S.out.below⟩
 rw [if_neg hcl]
 have HC : Aside0 (clashB a b = false) := ⟨by simpa using hcl⟩
 clear hcl
 by_cases k4 : a.f0.f1 = 4
 · rw [if_pos k4]
   have k4' : (a.f0.f1 == 4) = true := beq_iff_eq.mpr k4
   clear k4 hr hp hpb hwa hwb
   by_cases t0 : a.f4.f0 = b.f0.f0.f0 ∧ a.f4.f1 = b.f0.f0.f1
   · rw [if_pos (by unfold aimB; simp [t0.1, t0.2])]
     have e0 : (a.f4.f0 == b.f0.f0.f0) = true := by simp [t0.1]
     have e1 : (a.f4.f1 == b.f0.f0.f1) = true := by simp [t0.2]
     clear t0
     go_enter Tryd.func75, Tryd.ntmps75
     go_wp2_with (first | ((with_reducible refine gate_box rfl ?_); refine ev_box S ?_; clear S; intro _ _ S) | ((with_reducible refine gate_new rfl ?_); refine ev_new S 41 zA ?_; clear S; intro _ _ S) | ((with_reducible refine gate_load rfl ?_); first | refine ev_load S ?_ | refine ev_fld S ?_) | ((with_reducible refine gate_st rfl ?_); refine ev_store S ?_; clear S; intro _ S) | (go_at_call 71; (with_reducible refine (clash_any a b _ _ _ _ (HA.out.below S.out.below) (HB.out.below S.out.below) HC.out).mono ?_); rintro e w7 ⟨rfl, hb⟩; replace S := Aside0.mk (S.out.step hb); clear hb))
     exact bodyPost_ret (results_ct rfl _ _ _ 41 zA (0, 0) _ rfl (S.out.at_ 0 rfl) Tryd.underlying41 rfl (by kernel_rfl)) rfl ⟨.slice none 0 0, rfl, opR_nil _ _, S.out.below⟩
   · rw [if_neg (by unfold aimB; simp only [Bool.and_eq_true, beq_iff_eq]; exact t0)]
     have e2 : (a.f4.f0 == b.f0.f0.f0) = true ∧ (a.f4.f1 == b.f0.f0.f1) = false ∨ (a.f4.f0 == b.f0.f0.f0) = false := by
      by_cases q : a.f4.f0 = b.f0.f0.f0
      · exact .inl ⟨by simp [q], by simp only [beq_eq_false_iff_ne]; exact fun h => t0 ⟨q, h⟩⟩
      · exact .inr (by simpa using q)
     clear t0
     rcases e2 with ⟨e0, e1⟩ | e0
     all_goals
      go_enter Tryd.func75, Tryd.ntmps75
      go_wp2_with (first | ((with_reducible refine gate_box rfl ?_); refine ev_box S ?_; clear S; intro _ _ S) | ((with_reducible refine gate_new rfl ?_); refine ev_new S 41 zA ?_; clear S; intro _ _ S) | ((with_reducible refine gate_load rfl ?_); first | refine ev_load S ?_ | refine ev_fld S ?_) | ((with_reducible refine gate_st rfl ?_); refine ev_store S ?_; clear S; intro _ S) | (go_at_call 71; (with_reducible refine (clash_any a b _ _ _ _ (HA.out.below S.out.below) (HB.out.below S.out.below) HC.out).mono ?_); rintro e w7 ⟨rfl, hb⟩; replace S := Aside0.mk (S.out.step hb); clear hb) | (go_at_call 64; (with_reducible refine (clone_any a _ _ (HA.out.below S.out.below) hl).mono ?_); rintro e w7 ⟨v, rfl, hR, hb⟩; obtain ⟨Ao, co, rfl⟩ := hR.slice; replace S := Aside0.mk (S.out.addOp hb hR); clear hb hR))
      exact bodyPost_ret (results_ct rfl _ _ _ 41 _ (0, 0) _ rfl (S.out.at_ 0 rfl) Tryd.underlying41 rfl (by kernel_rfl)) rfl ⟨_, rfl, S.out.now.2, S.out.below⟩
 rw [if_neg k4]
 have k4' : (a.f0.f1 == 4) = false := beq_eq_false_iff_ne.mpr k4
 by_cases hk : b.f0.f1 = 1
 case neg =>
  rw [if_pos hk]
  have hk' : (b.f0.f1 != 1) = true := bne_iff_ne.mpr hk
  clear hk hr k4 hp hpb hwa hwb
  go_enter Tryd.func75, Tryd.ntmps75
  go_wp2_with (first | ((with_reducible refine gate_box rfl ?_); refine ev_box S ?_; clear S; intro _ _ S) | ((with_reducible refine gate_new rfl ?_); refine ev_new S 41 zA ?_; clear S; intro _ _ S) | ((with_reducible refine gate_load rfl ?_); first | refine ev_load S ?_ | refine ev_fld S ?_) | ((with_reducible refine gate_st rfl ?_); refine ev_store S ?_; clear S; intro _ S) | (go_at_call 71; (with_reducible refine (clash_any a b _ _ _ _ (HA.out.below S.out.below) (HB.out.below S.out.below) HC.out).mono ?_); rintro e w7 ⟨rfl, hb⟩; replace S := Aside0.mk (S.out.step hb); clear hb) | (go_at_call 64; (with_reducible refine (clone_any a _ _ (HA.out.below S.out.below) hl).mono ?_); rintro e w7 ⟨v, rfl, hR, hb⟩; obtain ⟨Ao, co, rfl⟩ := hR.slice; replace S := Aside0.mk (S.out.addOp hb hR); clear hb hR))
  exact bodyPost_ret (results_ct rfl _ _ _ 41 _ (0, 0) _ rfl (S.out.at_ 0 rfl) Tryd.underlying41 rfl (by kernel_rfl)) rfl ⟨_, rfl, S.out.now.2, S.out.below⟩
 rw [if_neg (show ¬ b.f0.f1 ≠ 1 from fun h => h hk)]
 have hk' : (b.f0.f1 != 1) = false := bne_eq_false_iff_eq.mpr hk
 by_cases ka : a.f0.f1 = 1
 · rw [if_pos ka]
   have ka' : (a.f0.f1 == 1) = true := beq_iff_eq.mpr ka
   clear ka k4 hk hr
   by_cases c1 : a.f1 ≤ b.f1
   · rw [if_pos c1]
     have c1' : decide (a.f1 ≤ b.f1) = true := decide_eq_true c1
     clear c1 hp hpb hwa hwb
     go_enter Tryd.func75, Tryd.ntmps75
     go_wp2_with (first | ((with_reducible refine gate_box rfl ?_); refine ev_box S ?_; clear S; intro _ _ S) | ((with_reducible refine gate_new rfl ?_); refine ev_new S 41 zA ?_; clear S; intro _ _ S) | ((with_reducible refine gate_load rfl ?_); first | refine ev_load S ?_ | refine ev_fld S ?_) | ((with_reducible refine gate_st rfl ?_); refine ev_store S ?_; clear S; intro _ S) | (go_at_call 71; (with_reducible refine (clash_any a b _ _ _ _ (HA.out.below S.out.below) (HB.out.below S.out.below) HC.out).mono ?_); rintro e w7 ⟨rfl, hb⟩; replace S := Aside0.mk (S.out.step hb); clear hb) | (go_at_call 53; (with_reducible refine (width_any b _ _ (GW.below HG.out S.out.below) (HB.out.below S.out.below)).mono ?_); rintro e w7 ⟨rfl, hb⟩; replace S := Aside0.mk (S.out.step hb); clear hb) | (go_at_call 64; (with_reducible refine (clone_any a _ _ (HA.out.below S.out.below) hl).mono ?_); rintro e w7 ⟨v, rfl, hR, hb⟩; obtain ⟨Ao, co, rfl⟩ := hR.slice; replace S := Aside0.mk (S.out.addOp hb hR); clear hb hR))
     exact bodyPost_ret (results_ct rfl _ _ _ 41 _ (0, 0) _ rfl (S.out.at_ 0 rfl) Tryd.underlying41 rfl (by kernel_rfl)) rfl ⟨_, rfl, S.out.now.2, S.out.below⟩
   · rw [if_neg c1]
     have c1' : decide (a.f1 ≤ b.f1) = false := decide_eq_false c1
     have hw := show IntKind.i64.wrap (b.f1 + wid b) = b.f1 + wid b from IntWalk.i64_in _ (by omega)
     have HM := Aside0.mk (show (-4611686018427387904 ≤ a.f1 - wid b ∧ a.f1 - wid b ≤ 4611686018427387904) ∧ (-4611686018427387904 ≤ wid a ∧ wid a ≤ 4611686018427387000) by omega)
     have hw2 := show IntKind.i64.wrap (a.f1 - wid b) = a.f1 - wid b from IntWalk.i64_in _ (by omega)
     clear c1 hp hpb hwa hwb
     by_cases c2 : b.f1 + wid b ≤ a.f1
     · rw [if_pos c2]
       have c2' : decide (b.f1 + wid b ≤ a.f1) = true := decide_eq_true c2
       clear c2
       go_enter Tryd.func75, Tryd.ntmps75
       go_wp2_with (first | ((with_reducible refine gate_box rfl ?_); refine ev_box S ?_; clear S; intro _ _ S) | ((with_reducible refine gate_new rfl ?_); refine ev_new S 41 zA ?_; clear S; intro _ _ S) | ((with_reducible refine gate_load rfl ?_); first | refine ev_load S ?_ | refine ev_fld S ?_) | ((with_reducible refine gate_st rfl ?_); refine ev_store S ?_; clear S; intro _ S) | (go_at_call 71; (with_reducible refine (clash_any a b _ _ _ _ (HA.out.below S.out.below) (HB.out.below S.out.below) HC.out).mono ?_); rintro e w7 ⟨rfl, hb⟩; replace S := Aside0.mk (S.out.step hb); clear hb) | (go_at_call 53; (with_reducible refine (width_any b _ _ (GW.below HG.out S.out.below) (HB.out.below S.out.below)).mono ?_); rintro e w7 ⟨rfl, hb⟩; replace S := Aside0.mk (S.out.step hb); clear hb) | (go_at_call 72; (with_reducible refine (moved_any a _ (a.f1 - wid b) _ (GW.below HG.out S.out.below) (HA.out.below S.out.below) HM.out.1 HM.out.2).mono ?_); rintro e w7 ⟨v, rfl, hR, hb⟩; obtain ⟨Ao, co, rfl⟩ := hR.slice; replace S := Aside0.mk (S.out.addOp hb hR); clear hb hR))
       exact bodyPost_ret (results_ct rfl _ _ _ 41 _ (0, 0) _ rfl (S.out.at_ 0 rfl) Tryd.underlying41 rfl (by kernel_rfl)) rfl ⟨_, rfl, S.out.now.2, S.out.below⟩
     · rw [if_neg c2]
       have c2' : decide (b.f1 + wid b ≤ a.f1) = false := decide_eq_false c2
       clear c2
       go_enter Tryd.func75, Tryd.ntmps75
       go_wp2_with (first | ((with_reducible refine gate_box rfl ?_); refine ev_box S ?_; clear S; intro _ _ S) | ((with_reducible refine gate_new rfl ?_); refine ev_new S 41 zA ?_; clear S; intro _ _ S) | ((with_reducible refine gate_load rfl ?_); first | refine ev_load S ?_ | refine ev_fld S ?_) | ((with_reducible refine gate_st rfl ?_); refine ev_store S ?_; clear S; intro _ S) | (go_at_call 71; (with_reducible refine (clash_any a b _ _ _ _ (HA.out.below S.out.below) (HB.out.below S.out.below) HC.out).mono ?_); rintro e w7 ⟨rfl, hb⟩; replace S := Aside0.mk (S.out.step hb); clear hb) | (go_at_call 53; (with_reducible refine (width_any b _ _ (GW.below HG.out S.out.below) (HB.out.below S.out.below)).mono ?_); rintro e w7 ⟨rfl, hb⟩; replace S := Aside0.mk (S.out.step hb); clear hb))
       exact bodyPost_ret (results_ct rfl _ _ _ 41 zA (0, 0) _ rfl (S.out.at_ 0 rfl) Tryd.underlying41 rfl (by kernel_rfl)) rfl ⟨.slice none 0 0, rfl, opR_nil _ _, S.out.below⟩
 · rw [if_neg ka]
   have ka' : (a.f0.f1 == 1) = false := beq_eq_false_iff_ne.mpr ka
   obtain ⟨k, hq⟩ := hr ka k4 hk
   have HT := Aside0.mk hq
   clear hr hq ka k4 hk hp hpb hwa hwb
   by_cases e0 : r.2.2 = 0
   · have e0' : (r.2.2 == 0) = true := beq_iff_eq.mpr e0
     by_cases l0 : 0 < r.2.1.length
     · rw [if_pos ⟨e0, l0⟩]
       have l1 : ¬ r.2.1 = [] := fun h => by rw [h] at l0; simp at l0
       have l2 : decide (0 < r.2.1.length) = true := decide_eq_true l0
       clear e0 l0
       go_enter Tryd.func75, Tryd.ntmps75
       go_wp2_with (first | ((with_reducible refine gate_box rfl ?_); refine ev_box S ?_; clear S; intro _ _ S) | ((with_reducible refine gate_new rfl ?_); refine ev_new S 41 zA ?_; clear S; intro _ _ S) | ((with_reducible refine gate_load rfl ?_); first | refine ev_load S ?_ | refine ev_fld S ?_) | ((with_reducible refine gate_st rfl ?_); refine ev_store S ?_; clear S; intro _ S) | (go_at_call 71; (with_reducible refine (clash_any a b _ _ _ _ (HA.out.below S.out.below) (HB.out.below S.out.below) HC.out).mono ?_); rintro e w7 ⟨rfl, hb⟩; replace S := Aside0.mk (S.out.step hb); clear hb) | (go_at_call 53; (with_reducible refine (width_any b _ _ (GW.below HG.out S.out.below) (HB.out.below S.out.below)).mono ?_); rintro e w7 ⟨rfl, hb⟩; replace S := Aside0.mk (S.out.step hb); clear hb) | (go_at_call 94; (with_reducible refine (span_Back.calls k A c a.f3 b.f1 (wid b) r.1 r.2.1 r.2.2 _ (Kd.C_below H2.out S.out.below) H1.out HT.out).mono ?_); rintro e w7 ⟨v, u, rfl, hR, hR2, hb⟩; replace hR := Kd.R_mono hR (fun _ _ => trivial); replace hR2 := Kd.R_mono hR2 (fun _ _ => trivial); obtain ⟨Ao, co, rfl⟩ := Kd.R_slice hR; obtain ⟨Ai, ci, rfl⟩ := Kd.R_slice hR2; replace S := Aside0.mk (S.out.addR2 hb hR hR2); clear hb hR hR2) | (go_at_call 74; (with_reducible refine (ranged_any a _ (r.1, 23) _ w _ _ _ S.out ?hbs HA.out S.out.now.1.2).mono ?_); (case hbs => simp [k94_E]); rintro e w7 ⟨v, rfl, ⟨Ao, co, rfl⟩, hS⟩; replace S := Aside0.mk hS; clear hS))
       exact bodyPost_ret (results_ct rfl _ _ _ 41 _ (0, 0) _ rfl (S.out.at_ 0 rfl) Tryd.underlying41 rfl (by kernel_rfl)) rfl ⟨_, rfl, S.out.now.2, S.out.below⟩
     · rw [if_neg (fun h => l0 h.2)]
       have l1 : r.2.1 = [] := List.eq_nil_of_length_eq_zero (by omega)
       have l2 : decide (0 < r.2.1.length) = false := decide_eq_false l0
       clear e0 l0
       go_enter Tryd.func75, Tryd.ntmps75
       go_wp2_with (first | ((with_reducible refine gate_box rfl ?_); refine ev_box S ?_; clear S; intro _ _ S) | ((with_reducible refine gate_new rfl ?_); refine ev_new S 41 zA ?_; clear S; intro _ _ S) | ((with_reducible refine gate_load rfl ?_); first | refine ev_load S ?_ | refine ev_fld S ?_) | ((with_reducible refine gate_st rfl ?_); refine ev_store S ?_; clear S; intro _ S) | (go_at_call 71; (with_reducible refine (clash_any a b _ _ _ _ (HA.out.below S.out.below) (HB.out.below S.out.below) HC.out).mono ?_); rintro e w7 ⟨rfl, hb⟩; replace S := Aside0.mk (S.out.step hb); clear hb) | (go_at_call 53; (with_reducible refine (width_any b _ _ (GW.below HG.out S.out.below) (HB.out.below S.out.below)).mono ?_); rintro e w7 ⟨rfl, hb⟩; replace S := Aside0.mk (S.out.step hb); clear hb) | (go_at_call 94; (with_reducible refine (span_Back.calls k A c a.f3 b.f1 (wid b) r.1 r.2.1 r.2.2 _ (Kd.C_below H2.out S.out.below) H1.out HT.out).mono ?_); rintro e w7 ⟨v, u, rfl, hR, hR2, hb⟩; replace hR := Kd.R_mono hR (fun _ _ => trivial); replace hR2 := Kd.R_mono hR2 (fun _ _ => trivial); obtain ⟨Ao, co, rfl⟩ := Kd.R_slice hR; obtain ⟨Ai, ci, rfl⟩ := Kd.R_slice hR2; replace S := Aside0.mk (S.out.addR2 hb hR hR2); clear hb hR hR2) | (go_at_call 74; (with_reducible refine (ranged_any a _ (r.1, r.2.2) _ w _ _ _ S.out ?hbs HA.out S.out.now.1.2).mono ?_); (case hbs => simp [k94_E]); rintro e w7 ⟨v, rfl, ⟨Ao, co, rfl⟩, hS⟩; replace S := Aside0.mk hS; clear hS))
       exact bodyPost_ret (results_ct rfl _ _ _ 41 _ (0, 0) _ rfl (S.out.at_ 0 rfl) Tryd.underlying41 rfl (by kernel_rfl)) rfl ⟨_, rfl, S.out.now.2, S.out.below⟩
   · rw [if_neg (fun h => e0 h.1)]
     have e0' : (r.2.2 == 0) = false := beq_eq_false_iff_ne.mpr e0
     clear e0
     go_enter Tryd.func75, Tryd.ntmps75
     go_wp2_with (first | ((with_reducible refine gate_box rfl ?_); refine ev_box S ?_; clear S; intro _ _ S) | ((with_reducible refine gate_new rfl ?_); refine ev_new S 41 zA ?_; clear S; intro _ _ S) | ((with_reducible refine gate_load rfl ?_); first | refine ev_load S ?_ | refine ev_fld S ?_) | ((with_reducible refine gate_st rfl ?_); refine ev_store S ?_; clear S; intro _ S) | (go_at_call 71; (with_reducible refine (clash_any a b _ _ _ _ (HA.out.below S.out.below) (HB.out.below S.out.below) HC.out).mono ?_); rintro e w7 ⟨rfl, hb⟩; replace S := Aside0.mk (S.out.step hb); clear hb) | (go_at_call 53; (with_reducible refine (width_any b _ _ (GW.below HG.out S.out.below) (HB.out.below S.out.below)).mono ?_); rintro e w7 ⟨rfl, hb⟩; replace S := Aside0.mk (S.out.step hb); clear hb) | (go_at_call 94; (with_reducible refine (span_Back.calls k A c a.f3 b.f1 (wid b) r.1 r.2.1 r.2.2 _ (Kd.C_below H2.out S.out.below) H1.out HT.out).mono ?_); rintro e w7 ⟨v, u, rfl, hR, hR2, hb⟩; replace hR := Kd.R_mono hR (fun _ _ => trivial); replace hR2 := Kd.R_mono hR2 (fun _ _ => trivial); obtain ⟨Ao, co, rfl⟩ := Kd.R_slice hR; obtain ⟨Ai, ci, rfl⟩ := Kd.R_slice hR2; replace S := Aside0.mk (S.out.addR2 hb hR hR2); clear hb hR hR2) | (go_at_call 74; (with_reducible refine (ranged_any a _ (r.1, r.2.2) _ w _ _ _ S.out ?hbs HA.out S.out.now.1.2).mono ?_); (case hbs => simp [k94_E]); rintro e w7 ⟨v, rfl, ⟨Ao, co, rfl⟩, hS⟩; replace S := Aside0.mk hS; clear hS))
     exact bodyPost_ret (results_ct rfl _ _ _ 41 _ (0, 0) _ rfl (S.out.at_ 0 rfl) Tryd.underlying41 rfl (by kernel_rfl)) rfl ⟨_, rfl, S.out.now.2, S.out.below⟩
end Go.Proofs.YtloccjkcmlkifaaDoor
end

section
/- span.Back, of ranges in order. -/
namespace Go.Proofs.YtloccjkcmlkifaaDoor
open Go.RowKit Go.Proofs.YtloccjkcmlkifaaDoor.PAll Go.Proofs.YtloccjkcmlkifaaDoorW.PrintWords

theorem lastLe.mono {acc : List S94} {p q : Int} (h : lastLe acc p) (hq : p ≤ q) : lastLe acc q := fun h0 => Int.le_trans (h h0) hq
theorem add_tot (acc : List S94) (lo hi : Int) (hl : acc.length ≤ 4398046511104) : ∃ r, span_add.f acc lo hi = some r ∧ acc.length ≤ r.length ∧ r.length ≤ acc.length + 1 ∧ (lo < hi → 0 < r.length) := by
 unfold span_add.f
 by_cases h0 : lo ≥ hi
 · rw [if_pos h0]; exact ⟨_, rfl, Nat.le_refl _, by omega, fun h => by omega⟩
 rw [if_neg h0]
 have hl' : acc.length < 8796093022208 := by omega
 by_cases h : 0 < acc.length
 · have w : wrap64 ((acc.length : Int) - 1) = ((acc.length - 1 : Nat) : Int) := by rw [wrap_id (by omega) (by omega)]; omega
   rw [if_pos (show (acc.length : Int) > 0 by omega), w, if_pos (by omega), if_pos (by omega)]
   by_cases c : (rd_T94 acc ((acc.length - 1 : Nat) : Int)).f1 ≥ lo
   · rw [if_pos c]; exact ⟨_, rfl, by simp, by simp, fun _ => by simpa using h⟩
   · rw [if_neg c, if_pos hl']; exact ⟨_, rfl, by simp, by simp, fun _ => by simp⟩
 · rw [if_neg (show ¬ (acc.length : Int) > 0 by omega), if_pos hl']; exact ⟨_, rfl, by simp, by simp, fun _ => by simp⟩
theorem add_jn (acc : List S94) (lo hi : Int) (hq : lastLe acc lo) (h2 : lo < hi) (hl : acc.length ≤ 4398046511104) : span_add.f acc lo hi = some (jn acc ⟨lo, hi⟩) := by
 unfold span_add.f jn
 have hl' : acc.length < 8796093022208 := by omega
 rw [if_neg (show ¬ lo ≥ hi by omega)]
 by_cases h : 0 < acc.length
 · have w : wrap64 ((acc.length : Int) - 1) = ((acc.length - 1 : Nat) : Int) := by rw [wrap_id (by omega) (by omega)]; omega
   have e : rd_T94 acc ((acc.length - 1 : Nat) : Int) = acc.getD (acc.length - 1) z94 := by unfold rd_T94; rw [Int.toNat_natCast]
   have hle := hq h
   rw [if_pos (show (acc.length : Int) > 0 by omega), w, if_pos (by omega), if_pos (by omega), e]
   by_cases c : (acc.getD (acc.length - 1) z94).f1 = lo
   · have m : mx (acc.getD (acc.length - 1) z94).f1 hi = hi := by unfold mx; split <;> omega
     rw [if_pos (show (acc.getD (acc.length - 1) z94).f1 ≥ lo by omega), m, Int.toNat_natCast, if_pos ⟨h, c⟩]
   · rw [if_neg (show ¬ (acc.getD (acc.length - 1) z94).f1 ≥ lo by omega), if_pos hl', if_neg (fun q => c q.2)]
 · rw [if_neg (show ¬ (acc.length : Int) > 0 by omega), if_pos hl', if_neg (fun q => h q.1)]
theorem lastLe_jn (acc : List S94) (r : S94) : lastLe (jn acc r) r.f1 := by
 unfold jn
 by_cases c : 0 < acc.length ∧ (acc.getD (acc.length - 1) z94).f1 = r.f0
 · rw [if_pos c]
   intro _
   rw [List.length_set, List.getD_eq_getElem?_getD, List.getElem?_set_self (by omega)]
   exact Int.le_refl _
 · rw [if_neg c]; exact lastLe_snoc _ _ _ (Int.le_refl _)
def mv (p n : Int) (r : S94) : S94 := if r.f1 ≤ p then r else ⟨r.f0 - n, r.f1 - n⟩
def hits (p n : Int) (l : List S94) : Bool := l.any fun r => decide (p < r.f1 ∧ r.f0 < p + n)
def bkS (p n : Int) (l : List S94) : List S94 := (l.map (mv p n)).foldl jn []
def un (p n x : Int) : Int := if x ≤ p then x else x - n
section
variable (L : List S94) (p n : Int) (hp : 0 ≤ p ∧ p ≤ 1048576) (hn : 1 ≤ n ∧ n ≤ 1048576) (hL : L.length ≤ 1048576)
include hp hn hL
theorem back_loop : ∀ (d k i : Nat) (acc : List S94) (x : Int), L.length = i + d → -1 ≤ x → Nrm x (L.drop i) → hits p n (L.drop i) = false → lastLe acc (un p n x) → acc.length ≤ i → d + 1 ≤ k →
 span_Back.l0 k p n acc [] L (L.length : Int) (i : Int) = some (((L.drop i).map (mv p n)).foldl jn acc, [], 0) := by
 intro d
 induction d with
 | zero =>
  intro k i acc x h1 hx hN hh hla hal hk
  obtain ⟨k, rfl⟩ : ∃ m, k = m + 1 := ⟨k - 1, by omega⟩
  rw [span_Back.l0, if_neg (by omega), List.drop_eq_nil_of_le (by omega)]
  rfl
 | succ d ih =>
  intro k i acc x h1 hx hN hh hla hal hk
  obtain ⟨k, rfl⟩ : ∃ m, k = m + 1 := ⟨k - 1, by omega⟩
  have hi : i < L.length := by omega
  have w : wrap64 ((i : Int) + 1) = ((i + 1 : Nat) : Int) := by clear ih hk hN hla; rw [wrap_id (by omega) (by omega)]; omega
  obtain ⟨r, hr⟩ : ∃ r, r = L.getD i z94 := ⟨_, rfl⟩
  have hd : L.drop i = r :: L.drop (i + 1) := by
   rw [hr, List.drop_eq_getElem_cons hi, List.getD_eq_getElem?_getD, List.getElem?_eq_getElem hi]; rfl
  have e : rd_T94 L (i : Int) = r := by unfold rd_T94; rw [Int.toNat_natCast, hr]
  rw [hd] at hN hh ⊢
  obtain ⟨b1, b2, b3, b4⟩ := hN
  have hh1 : decide (p < r.f1 ∧ r.f0 < p + n) = false ∧ hits p n (L.drop (i + 1)) = false := by
   unfold hits at hh ⊢
   simpa only [List.any_cons, Bool.or_eq_false_iff] using hh
  obtain ⟨hh1, hh2⟩ := hh1
  have hh1 := of_decide_eq_false hh1
  have w0 : wrap64 (p + n) = p + n := wrap_id (by omega) (by omega)
  have q1 : (i : Int) < (L.length : Int) := by omega
  have q2 : (0 : Int) ≤ (i : Int) := by omega
  have ql : acc.length ≤ 4398046511104 := by omega
  have hjl := jn_len acc (mv p n r)
  have g1 : L.length = (i + 1) + d := by omega
  have g2 : d + 1 ≤ k := by omega
  have g3 : (jn acc (mv p n r)).length ≤ i + 1 := by omega
  have g4 : -1 ≤ r.f1 := by omega
  rw [span_Back.l0, if_pos q1, if_pos q2, if_pos q1, e, w0, w]
  by_cases c : r.f1 ≤ p
  · have m1 : mn r.f1 p = r.f1 := by unfold mn; split <;> omega
    have m2 : mx r.f0 p = p := by unfold mx; split <;> omega
    have m3 : mn r.f1 (p + n) = r.f1 := by unfold mn; split <;> omega
    have m4 : mx r.f0 (p + n) = p + n := by unfold mx; split <;> omega
    have v1 : wrap64 (p - p) = 0 := by rw [wrap_id (by omega) (by omega)]; omega
    have v2 : wrap64 (r.f1 - p) = r.f1 - p := wrap_id (by omega) (by omega)
    have v3 : wrap64 (p + n - n) = p := by rw [wrap_id (by omega) (by omega)]; omega
    have v4 : wrap64 (r.f1 - n) = r.f1 - n := wrap_id (by omega) (by omega)
    have hm : mv p n r = r := if_pos c
    have hq : lastLe acc r.f0 := hla.mono (by unfold un; split <;> omega)
    rw [hm] at g3
    rw [m1, m2, m3, m4, v1, v2, v3, v4, add_jn acc r.f0 r.f1 hq b2 ql]
    simp only [Option.bind_some]
    rw [add_no [] _ _ (by omega)]
    simp only [Option.bind_some]
    rw [add_no _ _ _ (by omega)]
    simp only [Option.bind_some]
    rw [ih k (i + 1) (jn acc ⟨r.f0, r.f1⟩) r.f1 g1 g4 b4 hh2 (by
     have : un p n r.f1 = r.f1 := if_pos c
     rw [this]; exact lastLe_jn acc r) g3 g2]
    rw [List.map_cons, List.foldl_cons, hm]
  · have c2 : p + n ≤ r.f0 := by omega
    have m1 : mn r.f1 p = p := by unfold mn; split <;> omega
    have m2 : mx r.f0 p = r.f0 := by unfold mx; split <;> omega
    have m3 : mn r.f1 (p + n) = p + n := by unfold mn; split <;> omega
    have m4 : mx r.f0 (p + n) = r.f0 := by unfold mx; split <;> omega
    have v1 : wrap64 (r.f0 - p) = r.f0 - p := wrap_id (by omega) (by omega)
    have v2 : wrap64 (p + n - p) = n := by rw [wrap_id (by omega) (by omega)]; omega
    have v3 : wrap64 (r.f0 - n) = r.f0 - n := wrap_id (by omega) (by omega)
    have v4 : wrap64 (r.f1 - n) = r.f1 - n := wrap_id (by omega) (by omega)
    have hm : mv p n r = ⟨r.f0 - n, r.f1 - n⟩ := if_neg c
    have hq : lastLe acc (r.f0 - n) := hla.mono (by unfold un; split <;> omega)
    rw [hm] at g3
    rw [m1, m2, m3, m4, v1, v2, v3, v4, add_no acc _ _ (by omega)]
    simp only [Option.bind_some]
    rw [add_no [] _ _ (by omega)]
    simp only [Option.bind_some]
    rw [add_jn acc (r.f0 - n) (r.f1 - n) hq (by omega) ql]
    simp only [Option.bind_some]
    rw [ih k (i + 1) (jn acc ⟨r.f0 - n, r.f1 - n⟩) r.f1 g1 g4 b4 hh2 (by
     have : un p n r.f1 = r.f1 - n := if_neg c
     rw [this]; exact lastLe_jn acc ⟨r.f0 - n, r.f1 - n⟩) g3 g2]
    rw [List.map_cons, List.foldl_cons, hm]
theorem back_hit : ∀ (d k i : Nat) (acc inn : List S94) (x : Int), L.length = i + d → -1 ≤ x → Nrm x (L.drop i) → (0 < inn.length ∨ hits p n (L.drop i) = true) → acc.length ≤ 2 * i → inn.length ≤ i → d + 1 ≤ k →
 ∃ o j, span_Back.l0 k p n acc inn L (L.length : Int) (i : Int) = some (o, j, 0) ∧ 0 < j.length := by
 intro d
 induction d with
 | zero =>
  intro k i acc inn x h1 hx hN hh hal hil hk
  obtain ⟨k, rfl⟩ : ∃ m, k = m + 1 := ⟨k - 1, by omega⟩
  rw [span_Back.l0, if_neg (by omega)]
  refine ⟨_, _, rfl, ?_⟩
  rcases hh with h | h
  · exact h
  · rw [List.drop_eq_nil_of_le (by omega)] at h; exact absurd h (by simp [hits])
 | succ d ih =>
  intro k i acc inn x h1 hx hN hh hal hil hk
  obtain ⟨k, rfl⟩ : ∃ m, k = m + 1 := ⟨k - 1, by omega⟩
  have hi : i < L.length := by omega
  have w : wrap64 ((i : Int) + 1) = ((i + 1 : Nat) : Int) := by clear ih hk hN; rw [wrap_id (by omega) (by omega)]; omega
  obtain ⟨r, hr⟩ : ∃ r, r = L.getD i z94 := ⟨_, rfl⟩
  have hd : L.drop i = r :: L.drop (i + 1) := by
   rw [hr, List.drop_eq_getElem_cons hi, List.getD_eq_getElem?_getD, List.getElem?_eq_getElem hi]; rfl
  have e : rd_T94 L (i : Int) = r := by unfold rd_T94; rw [Int.toNat_natCast, hr]
  rw [hd] at hN hh
  obtain ⟨b1, b2, b3, b4⟩ := hN
  have w0 : wrap64 (p + n) = p + n := wrap_id (by omega) (by omega)
  have q1 : (i : Int) < (L.length : Int) := by omega
  have q2 : (0 : Int) ≤ (i : Int) := by omega
  have bx : p ≤ mx r.f0 p ∧ mx r.f0 p ≤ 1048576 ∧ (mx r.f0 p = r.f0 ∨ mx r.f0 p = p) := by unfold mx; split <;> omega
  have bn : 0 ≤ mn r.f1 (p + n) ∧ mn r.f1 (p + n) ≤ 2097152 ∧ (mn r.f1 (p + n) = r.f1 ∨ mn r.f1 (p + n) = p + n) := by unfold mn; split <;> omega
  have v1 : wrap64 (mx r.f0 p - p) = mx r.f0 p - p := wrap_id (by omega) (by omega)
  have v2 : wrap64 (mn r.f1 (p + n) - p) = mn r.f1 (p + n) - p := wrap_id (by omega) (by omega)
  obtain ⟨t1, a1, l1, l2, _⟩ := add_tot acc r.f0 (mn r.f1 p) (by omega)
  obtain ⟨t2, a2, l3, l4, l5⟩ := add_tot inn (mx r.f0 p - p) (mn r.f1 (p + n) - p) (by omega)
  obtain ⟨t3, a3, l6, l7, _⟩ := add_tot t1 (wrap64 (mx r.f0 (p + n) - n)) (wrap64 (r.f1 - n)) (by omega)
  rw [span_Back.l0, if_pos q1, if_pos q2, if_pos q1, e, w0, v1, v2, a1]
  simp only [Option.bind_some]
  rw [a2]
  simp only [Option.bind_some]
  rw [a3]
  simp only [Option.bind_some]
  rw [w]
  have g0 : 0 < t2.length ∨ hits p n (L.drop (i + 1)) = true := by
   rcases hh with h | h
   · exact .inl (by omega)
   · unfold hits at h ⊢
     simp only [List.any_cons, Bool.or_eq_true] at h
     rcases h with h | h
     · have h' := of_decide_eq_true h
       exact .inl (l5 (by
        have m1 : mx r.f0 p < mn r.f1 (p + n) := by unfold mx mn; split <;> split <;> omega
        omega))
     · exact .inr h
  have g1 : L.length = (i + 1) + d := by omega
  have g2 : -1 ≤ r.f1 := by omega
  have g3 : t3.length ≤ 2 * (i + 1) := by omega
  have g4 : t2.length ≤ i + 1 := by omega
  have g5 : d + 1 ≤ k := by omega
  exact ih k (i + 1) t3 t2 r.f1 g1 g2 b4 g0 g3 g4 g5
end
theorem back_is (l : List S94) (p n : Int) (hl : (rngE l).2 = 0) (hp : 0 ≤ p ∧ p ≤ 1048576) (hn : 1 ≤ n ∧ n ≤ 1048576) (hpn : p + n ≤ 1048576) :
 ∃ k r, span_Back.f k l p n = some r ∧ r.2.2 = 0 ∧ (hits p n l = true → 0 < r.2.1.length) ∧ (hits p n l = false → r.2.1 = [] ∧ r.1 = bkS p n l) := by
 obtain ⟨hlen, hN⟩ := rng_ok hl
 obtain ⟨K, hK⟩ := span_chk l
 dsimp only at hK
 obtain ⟨k, hk⟩ : ∃ k, k = K + l.length + 8 := ⟨_, rfl⟩
 have ho : ∀ x : Int, 0 ≤ x ∧ x ≤ 1048576 → span_outside.f x = some false := fun x hx => by
  unfold span_outside.f
  rw [if_neg (by omega), decide_eq_false (by omega)]
 have hw : wrap64 (p + n) = p + n := wrap_id (by omega) (by omega)
 have hf : span_Back.f (k + 1) l p n = span_Back.l0 k p n [] [] l (l.length : Int) ((0 : Nat) : Int) := by
  unfold span_Back.f
  rw [hK (k + 1) (by omega)]
  simp only [Option.bind_some]
  rw [if_pos hl, ho p hp]
  simp only [Option.bind_some]
  rw [if_neg (by simp), ho n ⟨by omega, hn.2⟩]
  simp only [Option.bind_some]
  rw [if_neg (by simp), hw, decide_eq_false (show ¬ p + n > 1048576 by omega), span_Back.j0, if_neg (by simp)]
  rfl
 cases hh : hits p n l with
 | false =>
  have := back_loop l p n hp hn (by omega) l.length k 0 [] (-1) (by omega) (by omega) (by simpa using hN) (by simpa using hh) (fun h => absurd h (by simp)) (by simp) (by omega)
  exact ⟨k + 1, _, hf.trans this, rfl, fun h => by simp at h, fun _ => ⟨rfl, by rw [List.drop_zero]; rfl⟩⟩
 | true =>
  obtain ⟨o, j, h1, h2⟩ := back_hit l p n hp hn (by omega) l.length k 0 [] [] (-1) (by omega) (by omega) (by simpa using hN) (.inr (by simpa using hh)) (by simp) (by simp) (by omega)
  exact ⟨k + 1, _, hf.trans h1, rfl, fun _ => h2, fun h => by simp at h⟩
def excE (a b : S41) : S41 × Int :=
 if clashB a b = true then (z41, 50) else if a.f0.f1 = 4 then (if aimB a b = true then (z41, 23) else (a, 0)) else if b.f0.f1 ≠ 1 then (a, 0)
 else if a.f0.f1 = 1 then (if a.f1 ≤ b.f1 then (a, 0) else if b.f1 + wid b ≤ a.f1 then moveE a (a.f1 - wid b) else (z41, 23))
 else if hits b.f1 (wid b) a.f3 = true then (z41, 23) else (⟨a.f0, a.f1, a.f2, bkS b.f1 (wid b) a.f3, a.f4, a.f5⟩, 0)
theorem exc_r {a b : S41} (ga : Good a) (gb : Good b) : ∃ r, (a.f0.f1 ≠ 1 → a.f0.f1 ≠ 4 → b.f0.f1 = 1 → ∃ k, span_Back.f k a.f3 b.f1 (wid b) = some r) ∧ excP a b r = excE a b := by
 by_cases h : a.f0.f1 ≠ 1 ∧ a.f0.f1 ≠ 4 ∧ b.f0.f1 = 1
 · obtain ⟨h1, h4, hb⟩ := h
   have hw := gb.wid1 hb
   have hk := ga.kind
   obtain ⟨k, r, e, r0, ht, hf⟩ := back_is a.f3 b.f1 (wid b) (ga.rng (by omega)) ⟨hw.2.2.1, by omega⟩ ⟨hw.1, by omega⟩ hw.2.2.2
   refine ⟨r, fun _ _ _ => ⟨k, e⟩, ?_⟩
   unfold excP excE
   by_cases hc : clashB a b = true
   · rw [if_pos hc, if_pos hc]
   rw [if_neg hc, if_neg hc, if_neg h4, if_neg h4, if_neg (show ¬ b.f0.f1 ≠ 1 from fun q => q hb), if_neg (show ¬ b.f0.f1 ≠ 1 from fun q => q hb), if_neg h1, if_neg h1]
   cases hh : hits b.f1 (wid b) a.f3 with
   | true =>
    rw [if_pos ⟨r0, ht hh⟩, if_pos rfl]
    rfl
   | false =>
    obtain ⟨f1, f2⟩ := hf hh
    rw [if_neg (fun q => by rw [f1] at q; exact absurd q.2 (by simp)), r0, f2, if_neg (by simp)]
    rfl
 · refine ⟨([], [], 0), fun h1 h4 hb => absurd ⟨h1, h4, hb⟩ h, ?_⟩
   unfold excP excE
   by_cases hc : clashB a b = true
   · rw [if_pos hc, if_pos hc]
   rw [if_neg hc, if_neg hc]
   by_cases h4 : a.f0.f1 = 4
   · rw [if_pos h4, if_pos h4]
   · rw [if_neg h4, if_neg h4]
     by_cases hb : b.f0.f1 = 1
     · have h1 : a.f0.f1 = 1 := Classical.byContradiction fun q => h ⟨q, h4, hb⟩
       rw [if_neg (show ¬ b.f0.f1 ≠ 1 from fun q => q hb), if_neg (show ¬ b.f0.f1 ≠ 1 from fun q => q hb), if_pos h1, if_pos h1]
     · rw [if_pos hb, if_pos hb]
end Go.Proofs.YtloccjkcmlkifaaDoor
end
