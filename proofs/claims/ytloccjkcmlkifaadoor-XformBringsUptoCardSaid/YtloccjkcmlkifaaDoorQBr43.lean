/- XformBrings_card, part 43. -/
import Derived.Test.YtloccjkcmlkifaaDoorQBr41
import Derived.Test.YtloccjkcmlkifaaDoorQBr42
import Derived.Test.YtloccjkcmlkifaaDoorQBr40

section
/- The document's Bring answers as the program's. -/
namespace Go.Proofs.YtloccjkcmlkifaaDoor
open Go.RowKit Go.Proofs.YtloccjkcmlkifaaDoor.PAll Go.Proofs.YtloccjkcmlkifaaDoorW.PrintWords Go.Proofs.YtloccjkcmlkifaaDoorW.PrintLast

set_option maxRecDepth 100000 in
set_option maxHeartbeats 8000000 in
theorem rbring_any (l : List S41) (n m : Int) (vl : Value) (w : World) (hl : RunC w vl l) (fl : fineRun l) : Calls Tryd.prog 101 #[vl, .int .i64 n, .int .i64 m] w (RetRun w (bringE l n m)) := by
 obtain ⟨B, d, rfl, h3, h4⟩ := hl
 have S := Aside0.mk (St.init w (F := fun _ => True) (fun _ _ => trivial))
 have HB := Aside0.mk (runC_mk h3 h4)
 have HF := Aside0.mk fl
 clear h3 h4 fl
 by_cases c1 : ownsE l = 0
 case neg =>
  have HM := Aside0.mk (show bringE l n m = ([], ownsE l) from if_pos c1)
  have c1' : (ownsE l != 0) = true := bne_iff_ne.mpr c1
  clear c1
  go_enter Tryd.func101, Tryd.ntmps101
  go_wp2_with ((go_at_call 95; (with_reducible refine (rowns_any l _ _ (HB.out.below S.out.below) HF.out.2 HF.out.1).mono ?_); rintro e_ w7 ⟨rfl, hb⟩; replace S := Aside0.mk (S.out.step hb); clear hb))
  rw [HM.out]
  go_ret2
  exact ⟨_, rfl, runR_nil _ _, S.out.below⟩
 have c1' : (ownsE l != 0) = false := bne_eq_false_iff_eq.mpr c1
 by_cases cr : n < 0 ∨ (l.length : Int) ≤ n ∨ m < 0 ∨ (l.length : Int) ≤ m
 · have HM := Aside0.mk (show bringE l n m = ([], 12) by unfold bringE; rw [if_neg (fun h => h c1), if_pos cr])
   have hq : decide (n < 0) = true ∨ decide (n < 0) = false ∧ decide (m < 0) = true ∨ decide (n < 0) = false ∧ decide (m < 0) = false ∧ decide ((l.length : Int) ≤ n) = true ∨ decide (n < 0) = false ∧ decide (m < 0) = false ∧ decide ((l.length : Int) ≤ n) = false ∧ decide ((l.length : Int) ≤ m) = true := by
    by_cases a1 : n < 0 <;> by_cases a2 : (l.length : Int) ≤ n <;> by_cases a3 : m < 0 <;> by_cases a4 : (l.length : Int) ≤ m <;> simp [a1, a2, a3, a4] at cr ⊢
   clear c1 cr
   rcases hq with q1 | ⟨q1, q2⟩ | ⟨q1, q2, q3⟩ | ⟨q1, q2, q3, q4⟩
   all_goals
    go_enter Tryd.func101, Tryd.ntmps101
    go_wp2_with ((go_at_call 95; (with_reducible refine (rowns_any l _ _ (HB.out.below S.out.below) HF.out.2 HF.out.1).mono ?_); rintro e_ w7 ⟨rfl, hb⟩; replace S := Aside0.mk (S.out.step hb); clear hb))
    rw [HM.out]
    go_ret2
    exact ⟨_, rfl, runR_nil _ _, S.out.below⟩
 obtain ⟨k0, rfl⟩ : ∃ k : Nat, n = k := ⟨n.toNat, by omega⟩
 obtain ⟨tq, rfl⟩ : ∃ k : Nat, m = k := ⟨m.toNat, by omega⟩
 have HR := Aside0.mk (show bringE l k0 tq = bringN (dist k0 tq) l k0 tq by unfold bringE; rw [if_neg (fun h => h c1), if_neg cr]; rfl)
 have HGD := Aside0.mk (owns_good c1 HF.out.2)
 have HT := Aside0.mk (show k0 < l.length ∧ tq < l.length by omega)
 have q1 : decide (l.length ≤ k0) = false := decide_eq_false (by omega)
 have q2 : decide (l.length ≤ tq) = false := decide_eq_false (by omega)
 have q3 : k0 < l.length := by omega
 have q4 : tq < l.length := by omega
 clear c1 cr
 go_enter Tryd.func101, Tryd.ntmps101
 go_wp2_with (first | (go_at_call 95; (with_reducible refine (rowns_any l _ _ (HB.out.below S.out.below) HF.out.2 HF.out.1).mono ?_); rintro e_ w7 ⟨rfl, hb⟩; replace S := Aside0.mk (S.out.step hb); clear hb) | (go_at_call 36; (with_reducible refine (copyRun_any l _ _ (HB.out.below S.out.below) HF.out.2 HF.out.1).mono ?_); rintro e_ w7 ⟨u, rfl, hR, hb⟩; obtain ⟨pl, bs, _, j, hpl, _, _, RL, S'⟩ := S.out.addRun hb hR (i := 0) (u := .slice none 0 0) (q := []) (.inl ⟨rfl, rfl⟩); obtain ⟨Al, cl, rfl⟩ := RL.slice; replace S := Aside0.mk S'; clear S' hb hR; replace RL := Aside0.mk RL; replace hpl := Aside0.mk hpl))
 have hpe : pl.length = l.length := by rw [← hpl.out, List.length_map]
 have H0 := Aside0.mk (BringAt.mk (R := bringE l k0 tq) (tq := tq) (k := k0) RL.out (S.out.weak fun _ h => h.2) (goodP_of hpl.out HGD.out) rfl (by rw [hpe]; exact HT.out.1) (by rw [HR.out, hpl.out]))
 have HN := Aside0.mk (show pl.length ≤ 1048576 ∧ tq < pl.length by rw [hpe]; exact ⟨HF.out.1, HT.out.2⟩)
 obtain ⟨nl, hnl⟩ : ∃ n, n = pl.length := ⟨_, rfl⟩
 rw [← hnl] at H0 HN ⊢
 clear S RL hpl HR HGD hnl hpe HT q1 q2 q3 q4
 go_loopw [1] (fun f' wr => ∃ (bs : List Bx) (j k : Nat) (p : List OV), f' = .int .i64 (k : Int) ∧ Aside0 (BringAt w (bringE l k0 tq) Al cl nl tq bs j k p wr)) (fun f' _ => dist (intOf f').toNat tq)
 case atStart => exact ⟨_, _, _, _, rfl, H0⟩
 case round =>
  obtain ⟨bs, j, k, p, rfl, HO⟩ := hrel
  have S := Aside0.mk HO.out.st
  by_cases he : k = tq
  · obtain rfl := he
    have HE := Aside0.mk (show bringE l k0 k = (p.map (·.1), 0) by
     have e := HO.out.eq
     have : dist k k = 0 := by unfold dist; rw [if_neg (by omega)]; omega
     rw [this] at e
     exact e)
    go_wp2_with (fail)
    go_ret2
    rw [HE.out]
    exact ⟨_, rfl, HO.out.run.R S.out S.out.now (by rw [HO.out.len]; exact HN.out.1), S.out.below⟩
  by_cases hlt : k < tq
  · obtain ⟨d, ⟨o, vo⟩, ⟨q, vq⟩, r, rfl, hd⟩ := split_at (p := p) (i := k) (by have := HO.out.len; have := HO.out.pos; have := HN.out.2; omega)
    subst hd
    have HD := Aside0.mk (show d.length + 1 < nl ∧ d.length + 1 < 1048576 by have h2 := HO.out.len; simp at h2; have := HN.out.1; omega)
    have HST := Aside0.mk (show bringE l k0 tq = if (trE o q).2.2 ≠ 0 then ([], (trE o q).2.2) else bringN (dist (d.length + 1) tq) (d.map (·.1) ++ (trE o q).1 :: (trE o q).2.1 :: r.map (·.1)) (d.length + 1) tq by
     have e := HO.out.eq
     rw [dist_right hlt, List.map_append, List.map_cons, List.map_cons, bring_step (by rw [List.length_map]; exact if_pos hlt)] at e
     rw [e]
     rw [if_pos hlt])
    have HDI := Aside0.mk (show dist (d.length + 1) tq < dist d.length tq by rw [dist_right hlt]; omega)
    have hw1 : wrap64 ((d.length : Int) + 1) = (d.length : Int) + 1 := cnt_wrap (by have := HD.out.2; omega)
    have hw0 : wrap64 (d.length : Int) = (d.length : Int) := wrap_id (by omega) (by have := HD.out.2; omega)
    have hw1' : IntKind.i64.wrap ((d.length : Int) + 1) = (d.length : Int) + 1 := by rw [i64_w]; exact hw1
    have hw0' : IntKind.i64.wrap (d.length : Int) = (d.length : Int) := by rw [i64_w]; exact hw0
    obtain ⟨Ao, co, rfl⟩ : ∃ A c, vo = .slice A o.f3.length c := (S.out.now (o, vo) (by simp)).slice
    obtain ⟨Aq, cq, rfl⟩ : ∃ A c, vq = .slice A q.f3.length c := (S.out.now (q, vq) (by simp)).slice
    have HM := Aside0.mk (show (o, Value.slice Ao o.f3.length co) ∈ d ++ (o, Value.slice Ao o.f3.length co) :: (q, Value.slice Aq q.f3.length cq) :: r ∧ (q, Value.slice Aq q.f3.length cq) ∈ d ++ (o, Value.slice Ao o.f3.length co) :: (q, Value.slice Aq q.f3.length cq) :: r by simp)
    have HGO := Aside0.mk (show Good o ∧ Good q from ⟨HO.out.gl _ HM.out.1, HO.out.gl _ HM.out.2⟩)
    have RL := Aside0.mk HO.out.run
    have hlk : d.length < nl := by have := HD.out.1; omega
    have hlk1 : d.length + 1 < nl := HD.out.1
    have hli : (d.length : Int) < (nl : Int) := by omega
    have hli1 : (d.length : Int) + 1 < (nl : Int) := by omega
    have hz1 : (0 : Int) ≤ (d.length : Int) := by omega
    have hz2 : (0 : Int) ≤ (d.length : Int) + 1 := by omega
    obtain ⟨gb, _, rfl, hq2⟩ := RL.out.at_
    clear hq2
    obtain ⟨ae, hae⟩ : ∃ ad : Addr, ad = ⟨gb, 0, none⟩ := ⟨_, rfl⟩
    rw [← hae] at HO RL ⊢
    clear hae
    go_wp2_with (fail)
    (refine rg_start (n := 19) (fun W => ∃ top : List Bx, St w W (top ++ bs) _) [] ⟨[], S.out⟩ (fun _ ⟨t, h⟩ => ⟨t, h.drew⟩) ?_; clear S; rintro _ ⟨top, S⟩; refine pu_ 0 ?_; refine pu_ 1 ?_; refine pu_ 2 ?_; refine le_ 3 (opA o (.slice Ao o.f3.length co)) ⟨top, S⟩ (fun _ ⟨t, h⟩ => (h.drop (List.sublist_append_right t bs)).atRun RL.out) ?_; refine pu_ 4 ?_; refine pu_ 5 ?_; refine pu_ 6 ?_; refine pu_ 7 ?_; refine le_ 8 (opA q (.slice Aq q.f3.length cq)) ⟨top, S⟩ (fun _ ⟨t, h⟩ => (h.drop (List.sublist_append_right t bs)).atRun2 RL.out) ?_; replace S := S.drop (List.sublist_append_right top bs); clear top)
    refine re_ (rc_ 9 ?p9_a1 (rc_ 14 ?p14_a1 (rc_ 15 ?p15_a1 AllReadyL.nil)))
    case' p9_a1 =>
     intro K hK; refine kc_ #[.agg (opA o (.slice Ao o.f3.length co)), .agg (opA q (.slice Aq q.f3.length cq))] ?_ Tryd.func98; refine (trE_ref o q _ _ _ (S.now _ HM.out.1).C (S.now _ HM.out.2).C HGO.out.1 HGO.out.2).mono ?_; rintro e_ w7 ⟨v, v2, rfl, hR, hR2, hb⟩; obtain ⟨Ai, ci, rfl⟩ := hR.slice; obtain ⟨Aj, cj, rfl⟩ := hR2.slice; have S' := S.addR2 hb hR hR2; clear hb hR hR2; refine ⟨_, rfl, hK.out _ _ ⟨[], S'.weak fun _ h => h.1.1⟩ (fun _ => ?_)⟩; clear hK S; have S := S'; clear S'; refine nr_ ?_; refine pu_ 10 ?_; refine pu_ 11 ?_; refine pu_ 12 ?_; refine pu_ 13 ?_
     refine re_ (rc_ 14 ?p14_a2 (rc_ 15 ?p15_a2 AllReadyL.nil))
     case' p14_a2 =>
      intro K hK; refine kn_ 41 zA S ?_; intro _ _ S'; refine hK.out _ _ ⟨[_], S'.weak fun _ h => h.1.1⟩ (fun _ => ?_); clear hK S; have S := S'; clear S'; refine nr_ ?_
      refine re_ (rc_ 15 ?p15_a3 AllReadyL.nil)
      case' p15_a3 =>
       intro K hK; refine kn_ 41 zA S ?_; intro _ _ S'; refine hK.out _ _ ⟨[_, _], S'.weak fun _ h => h.1.1⟩ (fun _ => ?_); clear hK S; have S := S'; clear S'; refine nr_ ?_
       refine re_ (rc_ 16 ?_ AllReadyL.nil); intro K hK; refine ks_ 1 S ?_; intro _ S'; refine hK.out _ _ ⟨[_, _], S'.weak fun _ h => h.1.1⟩ (fun _ => ?_); clear hK S; have S := S'; clear S'; refine re_ (rc_ 17 ?_ AllReadyL.nil); intro K hK; refine ks_ 0 S ?_; intro _ S'; refine hK.out _ _ ⟨[_, _], S'.weak fun _ h => h.1.1⟩ (fun _ => ?_); clear hK S; have S := S'; clear S'; refine pu_ 18 ?_; refine done_ (by kernel_rfl) ?_
     case' p15_a2 =>
      intro K hK; refine kn_ 41 zA S ?_; intro _ _ S'; refine hK.out _ _ ⟨[_], S'.weak fun _ h => h.1.1⟩ (fun _ => ?_); clear hK S; have S := S'; clear S'; refine nr_ ?_
      refine re_ (rc_ 14 ?p14_a4 AllReadyL.nil)
      case' p14_a4 =>
       intro K hK; refine kn_ 41 zA S ?_; intro _ _ S'; refine hK.out _ _ ⟨[_, _], S'.weak fun _ h => h.1.1⟩ (fun _ => ?_); clear hK S; have S := S'; clear S'; refine nr_ ?_
       refine re_ (rc_ 16 ?_ AllReadyL.nil); intro K hK; refine ks_ 0 S ?_; intro _ S'; refine hK.out _ _ ⟨[_, _], S'.weak fun _ h => h.1.1⟩ (fun _ => ?_); clear hK S; have S := S'; clear S'; refine re_ (rc_ 17 ?_ AllReadyL.nil); intro K hK; refine ks_ 1 S ?_; intro _ S'; refine hK.out _ _ ⟨[_, _], S'.weak fun _ h => h.1.1⟩ (fun _ => ?_); clear hK S; have S := S'; clear S'; refine pu_ 18 ?_; refine done_ (by kernel_rfl) ?_
    case' p14_a1 =>
     intro K hK; refine kn_ 41 zA S ?_; intro _ _ S'; refine hK.out _ _ ⟨[_], S'⟩ (fun _ => ?_); clear hK S; have S := S'; clear S'; refine nr_ ?_
     refine re_ (rc_ 9 ?p9_a5 (rc_ 15 ?p15_a5 AllReadyL.nil))
     case' p9_a5 =>
      intro K hK; refine kc_ #[.agg (opA o (.slice Ao o.f3.length co)), .agg (opA q (.slice Aq q.f3.length cq))] ?_ Tryd.func98; refine (trE_ref o q _ _ _ (S.now _ HM.out.1).C (S.now _ HM.out.2).C HGO.out.1 HGO.out.2).mono ?_; rintro e_ w7 ⟨v, v2, rfl, hR, hR2, hb⟩; obtain ⟨Ai, ci, rfl⟩ := hR.slice; obtain ⟨Aj, cj, rfl⟩ := hR2.slice; have S' := S.addR2 hb hR hR2; clear hb hR hR2; refine ⟨_, rfl, hK.out _ _ ⟨[_], S'.weak fun _ h => h.1.1⟩ (fun _ => ?_)⟩; clear hK S; have S := S'; clear S'; refine nr_ ?_; refine pu_ 10 ?_; refine pu_ 11 ?_; refine pu_ 12 ?_; refine pu_ 13 ?_
      refine re_ (rc_ 15 ?p15_a6 AllReadyL.nil)
      case' p15_a6 =>
       intro K hK; refine kn_ 41 zA S ?_; intro _ _ S'; refine hK.out _ _ ⟨[_, _], S'.weak fun _ h => h.1.1⟩ (fun _ => ?_); clear hK S; have S := S'; clear S'; refine nr_ ?_
       refine re_ (rc_ 16 ?_ AllReadyL.nil); intro K hK; refine ks_ 1 S ?_; intro _ S'; refine hK.out _ _ ⟨[_, _], S'.weak fun _ h => h.1.1⟩ (fun _ => ?_); clear hK S; have S := S'; clear S'; refine re_ (rc_ 17 ?_ AllReadyL.nil); intro K hK; refine ks_ 0 S ?_; intro _ S'; refine hK.out _ _ ⟨[_, _], S'.weak fun _ h => h.1.1⟩ (fun _ => ?_); clear hK S; have S := S'; clear S'; refine pu_ 18 ?_; refine done_ (by kernel_rfl) ?_
     case' p15_a5 =>
      intro K hK; refine kn_ 41 zA S ?_; intro _ _ S'; refine hK.out _ _ ⟨[_, _], S'⟩ (fun _ => ?_); clear hK S; have S := S'; clear S'; refine nr_ ?_
      refine re_ (rc_ 9 ?p9_a7 AllReadyL.nil)
      case' p9_a7 =>
       intro K hK; refine kc_ #[.agg (opA o (.slice Ao o.f3.length co)), .agg (opA q (.slice Aq q.f3.length cq))] ?_ Tryd.func98; refine (trE_ref o q _ _ _ (S.now _ HM.out.1).C (S.now _ HM.out.2).C HGO.out.1 HGO.out.2).mono ?_; rintro e_ w7 ⟨v, v2, rfl, hR, hR2, hb⟩; obtain ⟨Ai, ci, rfl⟩ := hR.slice; obtain ⟨Aj, cj, rfl⟩ := hR2.slice; have S' := S.addR2 hb hR hR2; clear hb hR hR2; refine ⟨_, rfl, hK.out _ _ ⟨[_, _], S'.weak fun _ h => h.1.1⟩ (fun _ => ?_)⟩; clear hK S; have S := S'; clear S'; refine nr_ ?_; refine pu_ 10 ?_; refine pu_ 11 ?_; refine pu_ 12 ?_; refine pu_ 13 ?_
       refine re_ (rc_ 16 ?_ AllReadyL.nil); intro K hK; refine ks_ 1 S ?_; intro _ S'; refine hK.out _ _ ⟨[_, _], S'.weak fun _ h => h.1.1⟩ (fun _ => ?_); clear hK S; have S := S'; clear S'; refine re_ (rc_ 17 ?_ AllReadyL.nil); intro K hK; refine ks_ 0 S ?_; intro _ S'; refine hK.out _ _ ⟨[_, _], S'.weak fun _ h => h.1.1⟩ (fun _ => ?_); clear hK S; have S := S'; clear S'; refine pu_ 18 ?_; refine done_ (by kernel_rfl) ?_
    case' p15_a1 =>
     intro K hK; refine kn_ 41 zA S ?_; intro _ _ S'; refine hK.out _ _ ⟨[_], S'⟩ (fun _ => ?_); clear hK S; have S := S'; clear S'; refine nr_ ?_
     refine re_ (rc_ 9 ?p9_a8 (rc_ 14 ?p14_a8 AllReadyL.nil))
     case' p9_a8 =>
      intro K hK; refine kc_ #[.agg (opA o (.slice Ao o.f3.length co)), .agg (opA q (.slice Aq q.f3.length cq))] ?_ Tryd.func98; refine (trE_ref o q _ _ _ (S.now _ HM.out.1).C (S.now _ HM.out.2).C HGO.out.1 HGO.out.2).mono ?_; rintro e_ w7 ⟨v, v2, rfl, hR, hR2, hb⟩; obtain ⟨Ai, ci, rfl⟩ := hR.slice; obtain ⟨Aj, cj, rfl⟩ := hR2.slice; have S' := S.addR2 hb hR hR2; clear hb hR hR2; refine ⟨_, rfl, hK.out _ _ ⟨[_], S'.weak fun _ h => h.1.1⟩ (fun _ => ?_)⟩; clear hK S; have S := S'; clear S'; refine nr_ ?_; refine pu_ 10 ?_; refine pu_ 11 ?_; refine pu_ 12 ?_; refine pu_ 13 ?_
      refine re_ (rc_ 14 ?p14_a9 AllReadyL.nil)
      case' p14_a9 =>
       intro K hK; refine kn_ 41 zA S ?_; intro _ _ S'; refine hK.out _ _ ⟨[_, _], S'.weak fun _ h => h.1.1⟩ (fun _ => ?_); clear hK S; have S := S'; clear S'; refine nr_ ?_
       refine re_ (rc_ 16 ?_ AllReadyL.nil); intro K hK; refine ks_ 0 S ?_; intro _ S'; refine hK.out _ _ ⟨[_, _], S'.weak fun _ h => h.1.1⟩ (fun _ => ?_); clear hK S; have S := S'; clear S'; refine re_ (rc_ 17 ?_ AllReadyL.nil); intro K hK; refine ks_ 1 S ?_; intro _ S'; refine hK.out _ _ ⟨[_, _], S'.weak fun _ h => h.1.1⟩ (fun _ => ?_); clear hK S; have S := S'; clear S'; refine pu_ 18 ?_; refine done_ (by kernel_rfl) ?_
     case' p14_a8 =>
      intro K hK; refine kn_ 41 zA S ?_; intro _ _ S'; refine hK.out _ _ ⟨[_, _], S'⟩ (fun _ => ?_); clear hK S; have S := S'; clear S'; refine nr_ ?_
      refine re_ (rc_ 9 ?p9_a10 AllReadyL.nil)
      case' p9_a10 =>
       intro K hK; refine kc_ #[.agg (opA o (.slice Ao o.f3.length co)), .agg (opA q (.slice Aq q.f3.length cq))] ?_ Tryd.func98; refine (trE_ref o q _ _ _ (S.now _ HM.out.1).C (S.now _ HM.out.2).C HGO.out.1 HGO.out.2).mono ?_; rintro e_ w7 ⟨v, v2, rfl, hR, hR2, hb⟩; obtain ⟨Ai, ci, rfl⟩ := hR.slice; obtain ⟨Aj, cj, rfl⟩ := hR2.slice; have S' := S.addR2 hb hR hR2; clear hb hR hR2; refine ⟨_, rfl, hK.out _ _ ⟨[_, _], S'.weak fun _ h => h.1.1⟩ (fun _ => ?_)⟩; clear hK S; have S := S'; clear S'; refine nr_ ?_; refine pu_ 10 ?_; refine pu_ 11 ?_; refine pu_ 12 ?_; refine pu_ 13 ?_
       refine re_ (rc_ 16 ?_ AllReadyL.nil); intro K hK; refine ks_ 0 S ?_; intro _ S'; refine hK.out _ _ ⟨[_, _], S'.weak fun _ h => h.1.1⟩ (fun _ => ?_); clear hK S; have S := S'; clear S'; refine re_ (rc_ 17 ?_ AllReadyL.nil); intro K hK; refine ks_ 1 S ?_; intro _ S'; refine hK.out _ _ ⟨[_, _], S'.weak fun _ h => h.1.1⟩ (fun _ => ?_); clear hK S; have S := S'; clear S'; refine pu_ 18 ?_; refine done_ (by kernel_rfl) ?_
    all_goals
     replace S := Aside0.mk S
     by_cases z : (trE o q).2.2 = 0
     case neg =>
      have z' : ((trE o q).2.2 != 0) = true := bne_iff_ne.mpr z
      have HE := Aside0.mk (HST.out.trans (if_pos z))
      clear z
      go_wp2_with (fail)
      rw [HE.out]
      go_ret2
      exact ⟨_, rfl, runR_nil _ _, S.out.below⟩
     have z' : ((trE o q).2.2 != 0) = false := bne_eq_false_iff_eq.mpr z
     have HE := Aside0.mk (HST.out.trans (if_neg (fun h => h z)))
     have HGI := Aside0.mk (tr_good HGO.out.1 HGO.out.2 z)
     clear z
     go_wp2_with (first | ((with_reducible refine gate_load rfl ?_); refine ev_load S ?_) | ((with_reducible refine gate_st rfl ?_); refine ev_put S (Aside0.mk ((RL.out.cons _).cons _)) ((trE o q).1, .slice Ai (trE o q).1.f3.length ci) ?_; clear S; intro _ B S RL2 _) | ((with_reducible refine gate_st rfl ?_); refine ev_put S (Aside0.mk RL2.out.snd) ((trE o q).2.1, .slice Aj (trE o q).2.1.f3.length cj) (k := d.length + 1) (hk := by simp) ?_; clear S; intro _ B2 S RL3 _; replace RL := Aside0.mk RL3.out.fst; clear RL2 RL3))
     go_roundw
     case rel =>
      refine ⟨(bs.set j B).set j B2, j, d.length + 1, d ++ ((trE o q).1, .slice Ai (trE o q).1.f3.length ci) :: ((trE o q).2.1, .slice Aj (trE o q).2.1.f3.length cj) :: r, by first | rfl | exact cnt_step (by have := HD.out.2; omega), ⟨?_⟩⟩
      have h := HO.out
      have hnl := h.len
      refine ⟨RL.out.tail.tail, (S.out.drop (bs' := (bs.set j B).set j B2) ((List.sublist_cons_self _ _).trans (List.sublist_cons_self _ _))).weak fun _ h => ownP_put2 h.1.1 h.1.2 h.2, goodP_put2 h.gl HGI.out.1 HGI.out.2, by simpa using hnl, by have := HD.out.1; omega, ?_⟩
      rw [HE.out, List.map_append, List.map_cons, List.map_cons]
     case measure => first | exact bring_less2 HDI.out | exact bring_less1 (by have := HD.out.2; omega) HDI.out
  · obtain ⟨d, ⟨o, vo⟩, ⟨q, vq⟩, r, rfl, hd⟩ := split_at (p := p) (i := k - 1) (by have := HO.out.len; have := HO.out.pos; have := HN.out.2; omega)
    obtain rfl : k = d.length + 1 := by omega
    clear hd
    have HD := Aside0.mk (show d.length + 1 < nl ∧ d.length + 1 < 1048576 by have h2 := HO.out.len; simp at h2; have := HN.out.1; omega)
    have HST := Aside0.mk (show bringE l k0 tq = if (trE o q).2.2 ≠ 0 then ([], (trE o q).2.2) else bringN (dist d.length tq) (d.map (·.1) ++ (trE o q).1 :: (trE o q).2.1 :: r.map (·.1)) d.length tq by
     have e := HO.out.eq
     rw [dist_left (show tq < d.length + 1 by omega), Nat.add_sub_cancel, List.map_append, List.map_cons, List.map_cons, bring_step (by rw [List.length_map]; rw [if_neg hlt]; omega)] at e
     rw [e]
     rw [if_neg hlt, Nat.add_sub_cancel])
    have HDI := Aside0.mk (show dist d.length tq < dist (d.length + 1) tq by rw [dist_left (k := d.length + 1) (by omega), Nat.add_sub_cancel]; omega)
    have hw1 : wrap64 ((d.length : Int) + 1) = (d.length : Int) + 1 := cnt_wrap (by have := HD.out.2; omega)
    have hw0 : wrap64 (d.length : Int) = (d.length : Int) := wrap_id (by omega) (by have := HD.out.2; omega)
    have hw1' : IntKind.i64.wrap ((d.length : Int) + 1) = (d.length : Int) + 1 := by rw [i64_w]; exact hw1
    have hw0' : IntKind.i64.wrap (d.length : Int) = (d.length : Int) := by rw [i64_w]; exact hw0
    obtain ⟨Ao, co, rfl⟩ : ∃ A c, vo = .slice A o.f3.length c := (S.out.now (o, vo) (by simp)).slice
    obtain ⟨Aq, cq, rfl⟩ : ∃ A c, vq = .slice A q.f3.length c := (S.out.now (q, vq) (by simp)).slice
    have HM := Aside0.mk (show (o, Value.slice Ao o.f3.length co) ∈ d ++ (o, Value.slice Ao o.f3.length co) :: (q, Value.slice Aq q.f3.length cq) :: r ∧ (q, Value.slice Aq q.f3.length cq) ∈ d ++ (o, Value.slice Ao o.f3.length co) :: (q, Value.slice Aq q.f3.length cq) :: r by simp)
    have HGO := Aside0.mk (show Good o ∧ Good q from ⟨HO.out.gl _ HM.out.1, HO.out.gl _ HM.out.2⟩)
    have RL := Aside0.mk HO.out.run
    have hlk : d.length < nl := by have := HD.out.1; omega
    have hlk1 : d.length + 1 < nl := HD.out.1
    have hli : (d.length : Int) < (nl : Int) := by omega
    have hli1 : (d.length : Int) + 1 < (nl : Int) := by omega
    have hz1 : (0 : Int) ≤ (d.length : Int) := by omega
    have hz2 : (0 : Int) ≤ (d.length : Int) + 1 := by omega
    obtain ⟨gb, _, rfl, hq2⟩ := RL.out.at_
    clear hq2
    obtain ⟨ae, hae⟩ : ∃ ad : Addr, ad = ⟨gb, 0, none⟩ := ⟨_, rfl⟩
    rw [← hae] at HO RL ⊢
    clear hae
    go_wp2_with (fail)
    (refine rg_start (n := 19) (fun W => ∃ top : List Bx, St w W (top ++ bs) _) [] ⟨[], S.out⟩ (fun _ ⟨t, h⟩ => ⟨t, h.drew⟩) ?_; clear S; rintro _ ⟨top, S⟩; refine pu_ 0 ?_; refine pu_ 1 ?_; refine pu_ 2 ?_; refine le_ 3 (opA o (.slice Ao o.f3.length co)) ⟨top, S⟩ (fun _ ⟨t, h⟩ => (h.drop (List.sublist_append_right t bs)).atRun RL.out) ?_; refine pu_ 4 ?_; refine pu_ 5 ?_; refine pu_ 6 ?_; refine pu_ 7 ?_; refine le_ 8 (opA q (.slice Aq q.f3.length cq)) ⟨top, S⟩ (fun _ ⟨t, h⟩ => (h.drop (List.sublist_append_right t bs)).atRun2 RL.out) ?_; replace S := S.drop (List.sublist_append_right top bs); clear top)
    refine re_ (rc_ 9 ?p9_b1 (rc_ 14 ?p14_b1 (rc_ 15 ?p15_b1 AllReadyL.nil)))
    case' p9_b1 =>
     intro K hK; refine kc_ #[.agg (opA o (.slice Ao o.f3.length co)), .agg (opA q (.slice Aq q.f3.length cq))] ?_ Tryd.func98; refine (trE_ref o q _ _ _ (S.now _ HM.out.1).C (S.now _ HM.out.2).C HGO.out.1 HGO.out.2).mono ?_; rintro e_ w7 ⟨v, v2, rfl, hR, hR2, hb⟩; obtain ⟨Ai, ci, rfl⟩ := hR.slice; obtain ⟨Aj, cj, rfl⟩ := hR2.slice; have S' := S.addR2 hb hR hR2; clear hb hR hR2; refine ⟨_, rfl, hK.out _ _ ⟨[], S'.weak fun _ h => h.1.1⟩ (fun _ => ?_)⟩; clear hK S; have S := S'; clear S'; refine nr_ ?_; refine pu_ 10 ?_; refine pu_ 11 ?_; refine pu_ 12 ?_; refine pu_ 13 ?_
     refine re_ (rc_ 14 ?p14_b2 (rc_ 15 ?p15_b2 AllReadyL.nil))
     case' p14_b2 =>
      intro K hK; refine kn_ 41 zA S ?_; intro _ _ S'; refine hK.out _ _ ⟨[_], S'.weak fun _ h => h.1.1⟩ (fun _ => ?_); clear hK S; have S := S'; clear S'; refine nr_ ?_
      refine re_ (rc_ 15 ?p15_b3 AllReadyL.nil)
      case' p15_b3 =>
       intro K hK; refine kn_ 41 zA S ?_; intro _ _ S'; refine hK.out _ _ ⟨[_, _], S'.weak fun _ h => h.1.1⟩ (fun _ => ?_); clear hK S; have S := S'; clear S'; refine nr_ ?_
       refine re_ (rc_ 16 ?_ AllReadyL.nil); intro K hK; refine ks_ 1 S ?_; intro _ S'; refine hK.out _ _ ⟨[_, _], S'.weak fun _ h => h.1.1⟩ (fun _ => ?_); clear hK S; have S := S'; clear S'; refine re_ (rc_ 17 ?_ AllReadyL.nil); intro K hK; refine ks_ 0 S ?_; intro _ S'; refine hK.out _ _ ⟨[_, _], S'.weak fun _ h => h.1.1⟩ (fun _ => ?_); clear hK S; have S := S'; clear S'; refine pu_ 18 ?_; refine done_ (by kernel_rfl) ?_
     case' p15_b2 =>
      intro K hK; refine kn_ 41 zA S ?_; intro _ _ S'; refine hK.out _ _ ⟨[_], S'.weak fun _ h => h.1.1⟩ (fun _ => ?_); clear hK S; have S := S'; clear S'; refine nr_ ?_
      refine re_ (rc_ 14 ?p14_b4 AllReadyL.nil)
      case' p14_b4 =>
       intro K hK; refine kn_ 41 zA S ?_; intro _ _ S'; refine hK.out _ _ ⟨[_, _], S'.weak fun _ h => h.1.1⟩ (fun _ => ?_); clear hK S; have S := S'; clear S'; refine nr_ ?_
       refine re_ (rc_ 16 ?_ AllReadyL.nil); intro K hK; refine ks_ 0 S ?_; intro _ S'; refine hK.out _ _ ⟨[_, _], S'.weak fun _ h => h.1.1⟩ (fun _ => ?_); clear hK S; have S := S'; clear S'; refine re_ (rc_ 17 ?_ AllReadyL.nil); intro K hK; refine ks_ 1 S ?_; intro _ S'; refine hK.out _ _ ⟨[_, _], S'.weak fun _ h => h.1.1⟩ (fun _ => ?_); clear hK S; have S := S'; clear S'; refine pu_ 18 ?_; refine done_ (by kernel_rfl) ?_
    case' p14_b1 =>
     intro K hK; refine kn_ 41 zA S ?_; intro _ _ S'; refine hK.out _ _ ⟨[_], S'⟩ (fun _ => ?_); clear hK S; have S := S'; clear S'; refine nr_ ?_
     refine re_ (rc_ 9 ?p9_b5 (rc_ 15 ?p15_b5 AllReadyL.nil))
     case' p9_b5 =>
      intro K hK; refine kc_ #[.agg (opA o (.slice Ao o.f3.length co)), .agg (opA q (.slice Aq q.f3.length cq))] ?_ Tryd.func98; refine (trE_ref o q _ _ _ (S.now _ HM.out.1).C (S.now _ HM.out.2).C HGO.out.1 HGO.out.2).mono ?_; rintro e_ w7 ⟨v, v2, rfl, hR, hR2, hb⟩; obtain ⟨Ai, ci, rfl⟩ := hR.slice; obtain ⟨Aj, cj, rfl⟩ := hR2.slice; have S' := S.addR2 hb hR hR2; clear hb hR hR2; refine ⟨_, rfl, hK.out _ _ ⟨[_], S'.weak fun _ h => h.1.1⟩ (fun _ => ?_)⟩; clear hK S; have S := S'; clear S'; refine nr_ ?_; refine pu_ 10 ?_; refine pu_ 11 ?_; refine pu_ 12 ?_; refine pu_ 13 ?_
      refine re_ (rc_ 15 ?p15_b6 AllReadyL.nil)
      case' p15_b6 =>
       intro K hK; refine kn_ 41 zA S ?_; intro _ _ S'; refine hK.out _ _ ⟨[_, _], S'.weak fun _ h => h.1.1⟩ (fun _ => ?_); clear hK S; have S := S'; clear S'; refine nr_ ?_
       refine re_ (rc_ 16 ?_ AllReadyL.nil); intro K hK; refine ks_ 1 S ?_; intro _ S'; refine hK.out _ _ ⟨[_, _], S'.weak fun _ h => h.1.1⟩ (fun _ => ?_); clear hK S; have S := S'; clear S'; refine re_ (rc_ 17 ?_ AllReadyL.nil); intro K hK; refine ks_ 0 S ?_; intro _ S'; refine hK.out _ _ ⟨[_, _], S'.weak fun _ h => h.1.1⟩ (fun _ => ?_); clear hK S; have S := S'; clear S'; refine pu_ 18 ?_; refine done_ (by kernel_rfl) ?_
     case' p15_b5 =>
      intro K hK; refine kn_ 41 zA S ?_; intro _ _ S'; refine hK.out _ _ ⟨[_, _], S'⟩ (fun _ => ?_); clear hK S; have S := S'; clear S'; refine nr_ ?_
      refine re_ (rc_ 9 ?p9_b7 AllReadyL.nil)
      case' p9_b7 =>
       intro K hK; refine kc_ #[.agg (opA o (.slice Ao o.f3.length co)), .agg (opA q (.slice Aq q.f3.length cq))] ?_ Tryd.func98; refine (trE_ref o q _ _ _ (S.now _ HM.out.1).C (S.now _ HM.out.2).C HGO.out.1 HGO.out.2).mono ?_; rintro e_ w7 ⟨v, v2, rfl, hR, hR2, hb⟩; obtain ⟨Ai, ci, rfl⟩ := hR.slice; obtain ⟨Aj, cj, rfl⟩ := hR2.slice; have S' := S.addR2 hb hR hR2; clear hb hR hR2; refine ⟨_, rfl, hK.out _ _ ⟨[_, _], S'.weak fun _ h => h.1.1⟩ (fun _ => ?_)⟩; clear hK S; have S := S'; clear S'; refine nr_ ?_; refine pu_ 10 ?_; refine pu_ 11 ?_; refine pu_ 12 ?_; refine pu_ 13 ?_
       refine re_ (rc_ 16 ?_ AllReadyL.nil); intro K hK; refine ks_ 1 S ?_; intro _ S'; refine hK.out _ _ ⟨[_, _], S'.weak fun _ h => h.1.1⟩ (fun _ => ?_); clear hK S; have S := S'; clear S'; refine re_ (rc_ 17 ?_ AllReadyL.nil); intro K hK; refine ks_ 0 S ?_; intro _ S'; refine hK.out _ _ ⟨[_, _], S'.weak fun _ h => h.1.1⟩ (fun _ => ?_); clear hK S; have S := S'; clear S'; refine pu_ 18 ?_; refine done_ (by kernel_rfl) ?_
    case' p15_b1 =>
     intro K hK; refine kn_ 41 zA S ?_; intro _ _ S'; refine hK.out _ _ ⟨[_], S'⟩ (fun _ => ?_); clear hK S; have S := S'; clear S'; refine nr_ ?_
     refine re_ (rc_ 9 ?p9_b8 (rc_ 14 ?p14_b8 AllReadyL.nil))
     case' p9_b8 =>
      intro K hK; refine kc_ #[.agg (opA o (.slice Ao o.f3.length co)), .agg (opA q (.slice Aq q.f3.length cq))] ?_ Tryd.func98; refine (trE_ref o q _ _ _ (S.now _ HM.out.1).C (S.now _ HM.out.2).C HGO.out.1 HGO.out.2).mono ?_; rintro e_ w7 ⟨v, v2, rfl, hR, hR2, hb⟩; obtain ⟨Ai, ci, rfl⟩ := hR.slice; obtain ⟨Aj, cj, rfl⟩ := hR2.slice; have S' := S.addR2 hb hR hR2; clear hb hR hR2; refine ⟨_, rfl, hK.out _ _ ⟨[_], S'.weak fun _ h => h.1.1⟩ (fun _ => ?_)⟩; clear hK S; have S := S'; clear S'; refine nr_ ?_; refine pu_ 10 ?_; refine pu_ 11 ?_; refine pu_ 12 ?_; refine pu_ 13 ?_
      refine re_ (rc_ 14 ?p14_b9 AllReadyL.nil)
      case' p14_b9 =>
       intro K hK; refine kn_ 41 zA S ?_; intro _ _ S'; refine hK.out _ _ ⟨[_, _], S'.weak fun _ h => h.1.1⟩ (fun _ => ?_); clear hK S; have S := S'; clear S'; refine nr_ ?_
       refine re_ (rc_ 16 ?_ AllReadyL.nil); intro K hK; refine ks_ 0 S ?_; intro _ S'; refine hK.out _ _ ⟨[_, _], S'.weak fun _ h => h.1.1⟩ (fun _ => ?_); clear hK S; have S := S'; clear S'; refine re_ (rc_ 17 ?_ AllReadyL.nil); intro K hK; refine ks_ 1 S ?_; intro _ S'; refine hK.out _ _ ⟨[_, _], S'.weak fun _ h => h.1.1⟩ (fun _ => ?_); clear hK S; have S := S'; clear S'; refine pu_ 18 ?_; refine done_ (by kernel_rfl) ?_
     case' p14_b8 =>
      intro K hK; refine kn_ 41 zA S ?_; intro _ _ S'; refine hK.out _ _ ⟨[_, _], S'⟩ (fun _ => ?_); clear hK S; have S := S'; clear S'; refine nr_ ?_
      refine re_ (rc_ 9 ?p9_b10 AllReadyL.nil)
      case' p9_b10 =>
       intro K hK; refine kc_ #[.agg (opA o (.slice Ao o.f3.length co)), .agg (opA q (.slice Aq q.f3.length cq))] ?_ Tryd.func98; refine (trE_ref o q _ _ _ (S.now _ HM.out.1).C (S.now _ HM.out.2).C HGO.out.1 HGO.out.2).mono ?_; rintro e_ w7 ⟨v, v2, rfl, hR, hR2, hb⟩; obtain ⟨Ai, ci, rfl⟩ := hR.slice; obtain ⟨Aj, cj, rfl⟩ := hR2.slice; have S' := S.addR2 hb hR hR2; clear hb hR hR2; refine ⟨_, rfl, hK.out _ _ ⟨[_, _], S'.weak fun _ h => h.1.1⟩ (fun _ => ?_)⟩; clear hK S; have S := S'; clear S'; refine nr_ ?_; refine pu_ 10 ?_; refine pu_ 11 ?_; refine pu_ 12 ?_; refine pu_ 13 ?_
       refine re_ (rc_ 16 ?_ AllReadyL.nil); intro K hK; refine ks_ 0 S ?_; intro _ S'; refine hK.out _ _ ⟨[_, _], S'.weak fun _ h => h.1.1⟩ (fun _ => ?_); clear hK S; have S := S'; clear S'; refine re_ (rc_ 17 ?_ AllReadyL.nil); intro K hK; refine ks_ 1 S ?_; intro _ S'; refine hK.out _ _ ⟨[_, _], S'.weak fun _ h => h.1.1⟩ (fun _ => ?_); clear hK S; have S := S'; clear S'; refine pu_ 18 ?_; refine done_ (by kernel_rfl) ?_
    all_goals
     replace S := Aside0.mk S
     by_cases z : (trE o q).2.2 = 0
     case neg =>
      have z' : ((trE o q).2.2 != 0) = true := bne_iff_ne.mpr z
      have HE := Aside0.mk (HST.out.trans (if_pos z))
      clear z
      go_wp2_with (fail)
      rw [HE.out]
      go_ret2
      exact ⟨_, rfl, runR_nil _ _, S.out.below⟩
     have z' : ((trE o q).2.2 != 0) = false := bne_eq_false_iff_eq.mpr z
     have HE := Aside0.mk (HST.out.trans (if_neg (fun h => h z)))
     have HGI := Aside0.mk (tr_good HGO.out.1 HGO.out.2 z)
     clear z
     go_wp2_with (first | ((with_reducible refine gate_load rfl ?_); refine ev_load S ?_) | ((with_reducible refine gate_st rfl ?_); refine ev_put S (Aside0.mk ((RL.out.cons _).cons _)) ((trE o q).1, .slice Ai (trE o q).1.f3.length ci) ?_; clear S; intro _ B S RL2 _) | ((with_reducible refine gate_st rfl ?_); refine ev_put S (Aside0.mk RL2.out.snd) ((trE o q).2.1, .slice Aj (trE o q).2.1.f3.length cj) (k := d.length + 1) (hk := by simp) ?_; clear S; intro _ B2 S RL3 _; replace RL := Aside0.mk RL3.out.fst; clear RL2 RL3))
     go_roundw
     case rel =>
      refine ⟨(bs.set j B).set j B2, j, d.length, d ++ ((trE o q).1, .slice Ai (trE o q).1.f3.length ci) :: ((trE o q).2.1, .slice Aj (trE o q).2.1.f3.length cj) :: r, by first | rfl | (rw [hw0]), ⟨?_⟩⟩
      have h := HO.out
      have hnl := h.len
      refine ⟨RL.out.tail.tail, (S.out.drop (bs' := (bs.set j B).set j B2) ((List.sublist_cons_self _ _).trans (List.sublist_cons_self _ _))).weak fun _ h => ownP_put2 h.1.1 h.1.2 h.2, goodP_put2 h.gl HGI.out.1 HGI.out.2, by simpa using hnl, by have := HD.out.1; omega, ?_⟩
      rw [HE.out, List.map_append, List.map_cons, List.map_cons]
     case measure => exact bring_less0 (by have := HD.out.2; omega) HDI.out
end Go.Proofs.YtloccjkcmlkifaaDoor
end

section
/- A script is played: each of its steps of the kinds asked is answered as it must be. -/
namespace Go.Proofs.YtloccjkcmlkifaaDoor
open Go.RowKit Go.Proofs.YtloccjkcmlkifaaDoor.PAll Go.Proofs.YtloccjkcmlkifaaDoorW.PrintWords Go.Proofs.YtloccjkcmlkifaaDoorW.PrintLast

abbrev PlaysYes (s : S100) : Prop := ∀ (va vb vr vo : Value) (w : World), GW w → StepC w va vb vr vo s → Calls Tryd.prog 68 #[.agg (stA s va vb vr vo)] w (Yes w)
abbrev RunsYes (s : S100) : Prop := ∀ (va vb vr vo : Value) (w : World), GW w → StepC w va vb vr vo s → Calls Tryd.prog 82 #[.agg (stA s va vb vr vo)] w (Yes w)
set_option maxRecDepth 100000 in
set_option maxHeartbeats 4000000 in
theorem plays_runs (s : S100) (hk : s.f0 = 4 ∨ s.f0 = 5 ∨ s.f0 = 6) (hp : RunsYes s) : PlaysYes s := by
 intro va vb vr vo w hG h
 have S := Aside0.mk (St.init w (F := fun _ => True) (fun _ _ => trivial))
 have HG := Aside0.mk hG; have HS := Aside0.mk h; have HP := Aside0.mk hp
 clear hG h hp
 have c1 : (s.f0 == 1) = false := beq_eq_false_iff_ne.mpr (by omega)
 have c2 : (s.f0 == 2) = false := beq_eq_false_iff_ne.mpr (by omega)
 have c3 : (s.f0 == 3) = false := beq_eq_false_iff_ne.mpr (by omega)
 have hk' : (s.f0 == 4) = true ∨ (s.f0 == 4) = false ∧ (s.f0 == 5) = true ∨ (s.f0 == 4) = false ∧ (s.f0 == 5) = false ∧ (s.f0 == 6) = true := by
  rcases hk with h | h | h
  · exact .inl (beq_iff_eq.mpr h)
  · exact .inr (.inl ⟨beq_eq_false_iff_ne.mpr (by omega), beq_iff_eq.mpr h⟩)
  · exact .inr (.inr ⟨beq_eq_false_iff_ne.mpr (by omega), beq_eq_false_iff_ne.mpr (by omega), beq_iff_eq.mpr h⟩)
 clear hk
 rcases hk' with c4 | ⟨c4, c5⟩ | ⟨c4, c5, c6⟩
 all_goals
  go_enter Tryd.func68, Tryd.ntmps68
  go_wp2_with (first | ((with_reducible refine gate_box rfl ?_); refine ev_box S ?_; clear S; intro _ _ S) | ((with_reducible refine gate_load rfl ?_); first | refine ev_load S ?_ | refine ev_fld S ?_) | (go_at_call 82; (with_reducible refine (HP.out _ _ _ _ _ (GW.below HG.out S.out.below) (HS.out.below S.out.below)).mono ?_); rintro e_ w7 ⟨rfl, hb⟩; replace S := Aside0.mk (S.out.step hb); clear hb))
  go_ret
  exact ⟨rfl, S.out.below⟩
theorem elem_S {w : World} {A : Option Addr} {l : List S100} (h : k100.C w A l.length l) (i : Nat) (hi : i < l.length) :
 ∃ ad va vb vr vo, A = some ad ∧ (∀ W, Below w.heap.size w W → atL W (ad.add (i * 24)) 0 (stA (l.getD i z100) va vb vr vo).toList) ∧ StepC w va vb vr vo (l.getD i z100) := by
 obtain ⟨ad, c, e, _, hK, hc⟩ := Kd.C_get h z100 (i : Int) (by omega) (by omega)
 rw [Int.toNat_natCast] at hK hc
 obtain ⟨A6, c6, A15, c15, A19, c19, A20, c20, rfl, l6, g6, l15, g15, l19, g19, l20, g20⟩ := k100_open hK
 refine ⟨ad, _, _, _, _, e, fun W hb => atL_mk fun j v hj => ?_, ⟨opC_mk l6 g6, opC_mk l15 g15, runC_mk l19 g19, runC_mk l20 g20⟩⟩
 have := hc j v hj
 have h2 : W.cell? (ad.add (i * 24 + j)) = some v := pw_cell_below hb this
 have h3 : (ad.add (i * 24)).add (0 + j) = ad.add (i * 24 + j) := by
  by_cases hj0 : j = 0
  · subst hj0
    rfl
  · rw [add_field ad (i * 24) j (by omega)]
    unfold Addr.add
    rw [if_neg (by omega), Nat.zero_add]
 rw [h3]; exact h2
abbrev zS : Array Value := #[.int .i64 0, .int .i64 0, .int .i64 0, .int .i64 0, .int .i64 0, .string ⟨#[]⟩, .slice none 0 0, .int .i64 0, .int .i64 0, .bool false, .int .i64 0, .int .i64 0, .int .i64 0, .int .i64 0, .string ⟨#[]⟩, .slice none 0 0, .int .i64 0, .int .i64 0, .bool false, .slice none 0 0, .slice none 0 0, .bool false, .int .i64 0, .int .i64 0]
set_option maxRecDepth 100000 in
set_option maxHeartbeats 4000000 in
theorem played_any (l : List S100) (lo hi : Int) (A : Option Addr) (c : Nat) (w : World) (hG : GW w) (hl : l.length ≤ 1048576) (h : k100.C w A l.length l) (hP : ∀ s ∈ l, lo ≤ s.f0 → s.f0 ≤ hi → PlaysYes s) :
 Calls Tryd.prog 51 #[.slice A l.length c, .int .i64 lo, .int .i64 hi] w (Yes w) := by
 have HE := Aside0.mk (fun i hi => elem_S h i hi)
 have HG := Aside0.mk hG; have HP := Aside0.mk hP
 obtain ⟨n, hn⟩ : ∃ n, n = l.length := ⟨_, rfl⟩
 rw [← hn] at hl ⊢
 have HN := Aside0.mk hn
 have S := Aside0.mk (St.init w (F := fun _ => True) (fun _ _ => trivial))
 clear hG hP h hn
 go_enter Tryd.func51, Tryd.ntmps51
 go_wp2_with (fail)
 go_loopw [7] (fun i' wr => ∃ k : Nat, k ≤ n ∧ i' = .int .i64 (k : Int) ∧ Aside0 (St w wr [] (fun _ => True))) (fun i' _ => n - (intOf i').toNat)
 case atStart => exact ⟨0, Nat.zero_le _, rfl, S⟩
 case round =>
  obtain ⟨k, hk, rfl, HA⟩ := hrel
  have S := HA
  by_cases hlt : k < n
  · have hlt' : k < l.length := by rw [← HN.out]; exact hlt
    obtain ⟨ad, va, vb, vr, vo, rfl, hat, hst⟩ := HE.out k hlt'
    have hm : l.getD k z100 ∈ l := by rw [List.getD_eq_getElem?_getD, List.getElem?_eq_getElem hlt']; exact List.getElem_mem hlt'
    obtain ⟨x, hx⟩ : ∃ x, x = l.getD k z100 := ⟨_, rfl⟩
    rw [← hx] at hat hst hm
    obtain ⟨⟨Aa, ca, rfl, p1, p2⟩, ⟨Ab, cb, rfl, p3, p4⟩, ⟨Ar, cr, rfl, p5, p6⟩, ⟨Ao, co, rfl, p7, p8⟩⟩ := hst
    have HAT := Aside0.mk hat
    have HST := Aside0.mk (show StepC w _ _ _ _ x from ⟨opC_mk p1 p2, opC_mk p3 p4, runC_mk p5 p6, runC_mk p7 p8⟩)
    clear p1 p2 p3 p4 p5 p6 p7 p8
    have hpx := HP.out x hm
    clear hat hx hm
    have hlk : (k : Int) < (n : Int) := by omega
    have hk0 : (0 : Int) ≤ (k : Int) := by omega
    by_cases c1 : lo ≤ x.f0
    · have c1' : decide (lo ≤ x.f0) = true := decide_eq_true c1
      by_cases c2 : x.f0 ≤ hi
      · have c2' : decide (x.f0 ≤ hi) = true := decide_eq_true c2
        have HPX := Aside0.mk (hpx c1 c2)
        clear c1 c2 hpx
        go_wp2_with (first | ((with_reducible refine gate_new rfl ?_); refine ev_new S 100 zS ?_; clear S; intro _ _ S) | ((with_reducible refine gate_load rfl ?_); first | refine ev_load S ?_ | refine ev_fld S ?_) | ((with_reducible refine gate_load rfl ?_); refine ev_ext _ (HAT.out _ S.out.below) ?_) | ((with_reducible refine gate_st rfl ?_); refine ev_store S ?_; clear S; intro _ S) | (go_at_call 68; (with_reducible refine (HPX.out _ _ _ _ _ (GW.below HG.out S.out.below) (HST.out.below S.out.below)).mono ?_); rintro e_ w7 ⟨rfl, hb⟩; replace S := Aside0.mk (S.out.step hb); clear hb))
        go_roundw
        case rel => exact ⟨k + 1, by omega, by go_num, ⟨(S.out.drop (List.nil_sublist _)).weak fun _ _ => trivial⟩⟩
        case measure => simp [intOf]; omega
      · have c2' : decide (x.f0 ≤ hi) = false := decide_eq_false c2
        clear c1 c2 hpx
        go_wp2_with (first | ((with_reducible refine gate_new rfl ?_); refine ev_new S 100 zS ?_; clear S; intro _ _ S) | ((with_reducible refine gate_load rfl ?_); first | refine ev_load S ?_ | refine ev_fld S ?_) | ((with_reducible refine gate_load rfl ?_); refine ev_ext _ (HAT.out _ S.out.below) ?_) | ((with_reducible refine gate_st rfl ?_); refine ev_store S ?_; clear S; intro _ S))
        go_roundw
        case rel => exact ⟨k + 1, by omega, by go_num, ⟨(S.out.drop (List.nil_sublist _)).weak fun _ _ => trivial⟩⟩
        case measure => simp [intOf]; omega
    · have c1' : decide (lo ≤ x.f0) = false := decide_eq_false c1
      clear c1 hpx
      go_wp2_with (first | ((with_reducible refine gate_new rfl ?_); refine ev_new S 100 zS ?_; clear S; intro _ _ S) | ((with_reducible refine gate_load rfl ?_); first | refine ev_load S ?_ | refine ev_fld S ?_) | ((with_reducible refine gate_load rfl ?_); refine ev_ext _ (HAT.out _ S.out.below) ?_) | ((with_reducible refine gate_st rfl ?_); refine ev_store S ?_; clear S; intro _ S))
      go_roundw
      case rel => exact ⟨k + 1, by omega, by go_num, ⟨(S.out.drop (List.nil_sublist _)).weak fun _ _ => trivial⟩⟩
      case measure => simp [intOf]; omega
  · obtain rfl : k = n := by omega
    go_wp2_with (fail)
    go_ret
    exact ⟨rfl, S.out.below⟩
end Go.Proofs.YtloccjkcmlkifaaDoor
end

section
/- A step of kind 5 (Cross) is answered as the document says. -/
namespace Go.Proofs.YtloccjkcmlkifaaDoor
open Go.RowKit Go.Proofs.YtloccjkcmlkifaaDoor.PAll Go.Proofs.YtloccjkcmlkifaaDoorW.PrintWords Go.Proofs.YtloccjkcmlkifaaDoorW.PrintLast

abbrev short (o : S41) : Prop := o.f3.length ≤ 1048576
theorem RunC.slice {w : World} {v : Value} {l : List S41} (h : RunC w v l) : ∃ A c, v = .slice A l.length c := by
 obtain ⟨A, c, e, _⟩ := h
 exact ⟨A, c, e⟩
set_option maxRecDepth 100000 in
set_option maxHeartbeats 4000000 in
theorem sameRun_any (l : List S41) (v u : Value) (w : World) (hv : RunC w v l) (hu : RunC w u l) (hl : l.length ≤ 1048576) (hs : ∀ o ∈ l, short o) : Calls Tryd.prog 41 #[v, u] w (Yes w) := by
 obtain ⟨A, c, rfl, h1, h2⟩ := hv
 obtain ⟨B, d, rfl, h3, h4⟩ := hu
 have S := Aside0.mk (St.init w (F := fun _ => True) (fun _ _ => trivial))
 have HE := Aside0.mk (fun i hi => elem_C h2 i hi)
 have HE2 := Aside0.mk (fun i hi => elem_C h4 i hi)
 have HS := Aside0.mk hs
 obtain ⟨n, hn⟩ : ∃ n, n = l.length := ⟨_, rfl⟩
 rw [← hn] at hl ⊢
 have HN := Aside0.mk hn
 have HL := Aside0.mk hl
 clear h1 h2 h3 h4 hs hn hl
 go_enter Tryd.func41, Tryd.ntmps41
 go_wp2_with (first | fail)
 go_loopw [5] (fun i' wr => ∃ k : Nat, k ≤ n ∧ i' = .int .i64 (k : Int) ∧ Aside0 (St w wr [] (fun _ => True))) (fun i' _ => n - (intOf i').toNat)
 case atStart => exact ⟨0, Nat.zero_le _, rfl, S⟩
 case round =>
  obtain ⟨k, hk, rfl, HA⟩ := hrel
  have S := HA
  by_cases hlt : k < n
  · have hlt' : k < l.length := by rw [← HN.out]; exact hlt
    obtain ⟨ad, A5, c5, rfl, hat, hop⟩ := HE.out k hlt'
    obtain ⟨ae, A6, c6, rfl, hat2, hop2⟩ := HE2.out k hlt'
    have hm : l.getD k z41 ∈ l := by rw [List.getD_eq_getElem?_getD, List.getElem?_eq_getElem hlt']; exact List.getElem_mem hlt'
    obtain ⟨o, ho⟩ : ∃ x, x = l.getD k z41 := ⟨_, rfl⟩
    rw [← ho] at hat hop hat2 hop2 hm
    have HAT := Aside0.mk hat; have HAT2 := Aside0.mk hat2
    have HO1 := Aside0.mk hop; have HO2 := Aside0.mk hop2
    have HL3 := Aside0.mk (show o.f3.length ≤ 4611686018427387904 by have := HS.out o hm; omega)
    have HK := Aside0.mk (show k < 1048576 ∧ k < n by have := HL.out; omega)
    have hlk : (k : Int) < (n : Int) := by omega
    have hk0 : (0 : Int) ≤ (k : Int) := by omega
    clear hat hop hat2 hop2 hm ho hlt'
    go_wp2_with (first | fail)
    refine rg_start (n := 10) (fun W => St w W [] (fun _ => True)) [] S.out (fun _ h => h.drew) ?_
    clear S
    intro _ S
    refine pu_ 0 ?_; refine pu_ 1 ?_; refine pu_ 2 ?_; refine le_ 3 (opA o (.slice A5 o.f3.length c5)) S (fun _ h => HAT.out _ h.below) ?_
    refine pu_ 4 ?_; refine pu_ 5 ?_; refine pu_ 6 ?_; refine le_ 7 (opA o (.slice A6 o.f3.length c6)) S (fun _ h => HAT2.out _ h.below) ?_
    refine cl_ 8 #[.agg (opA o (.slice A5 o.f3.length c5)), .agg (opA o (.slice A6 o.f3.length c6))] ?_ Tryd.func43
    refine (sameOp_any o _ _ _ (HO1.out.below S.below) (HO2.out.below S.below) HL3.out).mono ?_; rintro e_ w7 ⟨rfl, hb⟩
    refine ⟨_, rfl, S.step hb, fun S' => ?_⟩
    clear S hb
    have S := S'
    clear S'
    refine nr_ ?_
    refine pu_ 9 ?_; refine done_ (by kernel_rfl) ?_
    replace S := Aside0.mk S
    go_wp2_with (first | fail)
    go_roundw
    case rel => exact ⟨k + 1, by omega, cnt_step HK.out.1, S⟩
    case measure => exact cnt_less HK.out.1 HK.out.2
  · obtain rfl : k = n := by omega
    go_wp2_with (first | fail)
    go_ret
    exact ⟨rfl, S.out.below⟩
end Go.Proofs.YtloccjkcmlkifaaDoor
end

section
/- A step of kind 6 (Bring) is answered as the document says. -/
namespace Go.Proofs.YtloccjkcmlkifaaDoor
open Go.RowKit Go.Proofs.YtloccjkcmlkifaaDoor.PAll Go.Proofs.YtloccjkcmlkifaaDoorW.PrintWords Go.Proofs.YtloccjkcmlkifaaDoorW.PrintLast

theorem short_getD {L : List S41} (h : ∀ o ∈ L, short o) (i : Nat) : short (L.getD i z41) := by
 rw [List.getD_eq_getElem?_getD]
 by_cases hi : i < L.length
 · rw [List.getElem?_eq_getElem hi]; exact h _ (List.getElem_mem hi)
 · rw [List.getElem?_eq_none (by omega)]; exact Nat.zero_le _
theorem bringN_fine : ∀ (n : Nat) (L : List S41) (k tq : Nat), (∀ o ∈ L, short o) → (∀ o ∈ (bringN n L k tq).1, short o) ∧ (bringN n L k tq).1.length ≤ L.length
 | 0, L, _, _, h => ⟨h, Nat.le_refl _⟩
 | n + 1, L, k, tq, h => by
  unfold bringN
  obtain ⟨i, hi⟩ : ∃ i, i = (if k < tq then k else k - 1) := ⟨_, rfl⟩
  rw [← hi]
  by_cases c : (trE (L.getD i z41) (L.getD (i + 1) z41)).2.2 ≠ 0
  · rw [if_pos c]; exact ⟨by simp, Nat.zero_le _⟩
  rw [if_neg c]
  have ht := tr_len (L.getD i z41) (L.getD (i + 1) z41) (short_getD h i) (short_getD h (i + 1))
  have := bringN_fine n ((L.set i (trE (L.getD i z41) (L.getD (i + 1) z41)).1).set (i + 1) (trE (L.getD i z41) (L.getD (i + 1) z41)).2.1) (if k < tq then k + 1 else k - 1) tq (fun o ho => by
   rcases List.mem_or_eq_of_mem_set ho with ho | rfl
   · rcases List.mem_or_eq_of_mem_set ho with ho | rfl
     · exact h o ho
     · exact ht.1
   · exact ht.2)
  refine ⟨this.1, Nat.le_trans this.2 ?_⟩
  rw [List.length_set, List.length_set]
  exact Nat.le_refl _
theorem bring_fine (l : List S41) (n m : Int) (hf : fineRun l) : (∀ o ∈ (bringE l n m).1, short o) ∧ (bringE l n m).1.length ≤ 1048576 := by
 unfold bringE
 split
 · exact ⟨by simp, Nat.zero_le _⟩
 · split
   · exact ⟨by simp, Nat.zero_le _⟩
   · have := bringN_fine (dist n.toNat m.toNat) l n.toNat m.toNat (fun o ho => (hf.2 o ho).2)
     exact ⟨this.1, Nat.le_trans this.2 hf.1⟩
theorem St.addRun1 {w0 w w' : World} {bs : List Bx} {F : World → Prop} {v : Value} {l : List S41} (S : St w0 w bs F) (hb : Below w.heap.size w w') (h1 : RunR w' w.heap.size v l) : St w0 w' bs (fun W => F W ∧ RunC W v l) := S.add hb h1
set_option maxRecDepth 100000 in
set_option maxHeartbeats 8000000 in
theorem runs_bring (s : S100) (va vb vr vo : Value) (w : World) (hG : GW w) (h : StepC w va vb vr vo s) (k6 : s.f0 = 6) (hf : fineRun s.f3) : Calls Tryd.prog 82 #[.agg (stA s va vb vr vo)] w (Yes w) := by
 obtain ⟨⟨A, c, rfl, _, _⟩, ⟨A', c', rfl, _, _⟩, ⟨B, d, rfl, h1, h2⟩, ⟨B', d', rfl, _, _⟩⟩ := h
 have S := Aside0.mk (St.init w (F := fun _ => True) (fun _ _ => trivial))
 have HR := Aside0.mk (runC_mk h1 h2)
 have HG := Aside0.mk hG; have HF := Aside0.mk hf
 have HX := Aside0.mk (bring_fine s.f3 s.f6 s.f7 hf)
 have k4' : (s.f0 == 4) = false := beq_eq_false_iff_ne.mpr (by omega)
 have k5' : (s.f0 == 5) = false := beq_eq_false_iff_ne.mpr (by omega)
 clear h1 h2 hG hf k6
 go_enter Tryd.func82, Tryd.ntmps82
 go_wp2_with (first | ((with_reducible refine gate_box rfl ?_); refine ev_box S ?_; clear S; intro _ _ S) | ((with_reducible refine gate_load rfl ?_); refine ev_fld S ?_))
 refine rg_start (n := 13) (fun W => St w W _ (fun _ => True)) [] (S.out.weak fun _ _ => trivial) (fun _ h => h.drew) ?_
 clear S
 intro _ S
 refine pu_ 0 ?_; refine fl_ 1 0 S ?_; refine pu_ 3 ?_; refine fl_ 4 0 S ?_; refine pu_ 5 ?_; refine fl_ 6 0 S ?_
 refine cl_ 2 #[.slice B s.f3.length d] ?_ Tryd.func36; refine (copyRun_any s.f3 _ _ (HR.out.below S.below) HF.out.2 HF.out.1).mono ?_; rintro e_ w7 ⟨v, rfl, hR, hb⟩; have S' := S.addS hb hR; obtain ⟨Ar, cr, rfl⟩ := Kd.S_slice hR; clear hb hR; refine ⟨_, rfl, S'.weak fun _ _ => trivial, fun _ => ?_⟩; clear S; have S := S'; clear S'; refine nr_ ?_
 refine cl_ 7 #[.slice Ar s.f3.length cr, .int .i64 s.f6, .int .i64 s.f7] ?_ Tryd.func38; refine (bring_any s.f3 s.f6 s.f7 _ _ (GW.below HG.out S.below) (OwnRun.C S.now.2) HF.out).mono ?_; rintro e_ w7 ⟨v, rfl, hR, hb⟩; have S' := S.addRun1 hb hR; obtain ⟨Av, cv, rfl⟩ := hR.C.slice; clear hb hR; refine ⟨_, rfl, S'.weak fun _ _ => trivial, fun _ => ?_⟩; clear S; have S := S'; clear S'; refine nr_ ?_
 refine pu_ 8 ?_; refine pu_ 9 ?_; refine pu_ 10 ?_; refine pu_ 11 ?_; refine pu_ 12 ?_; refine done_ (by kernel_rfl) ?_
 replace S := Aside0.mk S
 go_wp2_with (first | ((with_reducible refine gate_load rfl ?_); refine ev_fld S ?_) | (go_at_call 101; (with_reducible refine (rbring_any s.f3 s.f6 s.f7 _ _ (HR.out.below S.out.below) HF.out).mono ?_); rintro e_ w7 ⟨v, rfl, hR, hb⟩; obtain ⟨Au, cu, rfl⟩ := hR.C.slice; replace S := Aside0.mk (S.out.addRun1 hb hR); clear hb hR) | (go_at_call 23; (with_reducible refine (num_any _ _).mono ?_); rintro e_ w7 ⟨rfl, hb⟩; replace S := Aside0.mk (S.out.step hb); clear hb) | (go_at_call 41; (with_reducible refine (sameRun_any (bringE s.f3 s.f6 s.f7).1 _ _ _ S.out.now.1.2 S.out.now.2 HX.out.2 HX.out.1).mono ?_); rintro e_ w7 ⟨rfl, hb⟩; replace S := Aside0.mk (S.out.step hb); clear hb))
 go_ret
 exact ⟨rfl, S.out.below⟩
theorem plays_bring (s : S100) (hf : fineStep s) (h : s.f0 = 6) : PlaysYes s :=
 plays_runs s (.inr (.inr h)) fun va vb vr vo w hG hS => runs_bring s va vb vr vo w hG hS h hf.2.2.1
end Go.Proofs.YtloccjkcmlkifaaDoor
end

section
/- An insert as the statements make it. -/
namespace Go.Proofs.YtloccjkcmlkifaaDoor
open Go.RowKit Go.Proofs.YtloccjkcmlkifaaDoor.PAll Go.Proofs.YtloccjkcmlkifaaDoorW.PrintWords Go.Proofs.YtloccjkcmlkifaaDoorW.PrintLast

abbrev insO (c n at_ : Int) (t : ByteArray) : S41 := ⟨⟨⟨c, n⟩, 1⟩, at_, t, [], ⟨0, 0⟩, false⟩
theorem opC_nil (w : World) (o : S41) (h : o.f3 = []) : OpC w (.slice none 0 0) o := by
 have e : k94.C w none 0 [] := by
  have := (opR_nil w 0).C
  obtain ⟨A, c, e, _, h⟩ := this
  injection e with e1 _ _
  rw [← e1] at h; exact h
 exact ⟨none, 0, by rw [h]; rfl, by rw [h]; exact Nat.le_refl _, by rw [h]; exact e⟩
theorem ins_any (c n at_ : Int) (t : ByteArray) (w : World) : Calls Tryd.prog 25 #[.int .i64 c, .int .i64 n, .int .i64 at_, .string t] w fun e w' => e = .returned (.agg (opA (insO c n at_ t) (.slice none 0 0))) ∧ Below w.heap.size w w' := by
 have S := Aside0.mk (St.init w (F := fun _ => True) (fun _ _ => trivial))
 go_enter Tryd.func25, Tryd.ntmps25
 go_wp2_with (first | ((with_reducible refine gate_new rfl ?_); refine ev_new S 41 zA ?_; clear S; intro _ _ S) | ((with_reducible refine gate_st rfl ?_); refine ev_store S ?_; clear S; intro _ S))
 exact bodyPost_ret (results_cell_row rfl _ _ _ 41 _ (0, 0) _ rfl (S.out.at_ 0 rfl) Tryd.underlying41 rfl (by kernel_rfl)) rfl ⟨rfl, S.out.below⟩
end Go.Proofs.YtloccjkcmlkifaaDoor
end

section
/- Fields of the operations of a run, read one by one. -/
namespace Go.Proofs.YtloccjkcmlkifaaDoor
open Go.RowKit Go.Proofs.YtloccjkcmlkifaaDoor.PAll Go.Proofs.YtloccjkcmlkifaaDoorW.PrintWords Go.Proofs.YtloccjkcmlkifaaDoorW.PrintLast

theorem fine_ins' (c n p : Int) (t : ByteArray) (h : t.size ≤ 1048576) : fineOp (insO c n p t) := ⟨h, by simp⟩
section
variable {P : Program} {ops : Array Oper} {rest : List Oper} {o : Oper} {a : Act} {Q : Exit → Act → World → Prop} {W : World}
theorem ev_cell {p : Addr} {v : Value} (hc : W.cell? p = some v) {N : Tmp} {ty : TypeId} {x : Operand}
 (h : wpList P ops Q rest (a.put (some N) v) W)
 (ho : o.op = .load ty x := by rfl) (hx : a.eval x = .pointer (some p) := by rfl) (hd : o.dst = some N := by rfl)
 (hw : Region.wanted o (yielded ops a.tmps) = true := by first | exact wanted_plain rfl | (refine wanted_on rfl ?_; first | (simp [yielded]; done) | rfl))
 (hrun : W.cell? p = some v → (execOp a.eval o).run P W = .ok (.value v) W := by intro hc_; first | (go_simp; done) | (go_simp; rfl)) : wpList P ops Q (o :: rest) a W :=
 have _ := ho; have _ := hx
 ev_run hw (hrun hc) (by rw [hd]; exact h)
end
theorem run_addr {W : World} {A : Option Addr} {n c : Nat} {l : List S41} (h : RunC W (.slice A n c) l) (hl : 0 < l.length) : ∃ ad, A = some ad := by
 obtain ⟨A', c', e, _, hC⟩ := h
 injection e with e1
 obtain ⟨ad, _, _, h3, _⟩ := elem_C hC 0 hl
 exact ⟨ad, e1.trans h3⟩
theorem run_cells9 {W : World} {ad : Addr} {n c : Nat} {l : List S41} (h : RunC W (.slice (some ad) n c) l) (i : Nat) (hi : i < l.length) : ∃ v, ∀ j u, 0 < j → (opA (l.getD i z41) v).toList[j]? = some u → W.cell? ⟨(ad.add (i * 9)).block, (ad.add (i * 9)).off + j, none⟩ = some u := by
 obtain ⟨A', c', e, _, hC⟩ := h
 injection e with e1
 subst e1
 obtain ⟨ad', A5, c5, h3, h4, _⟩ := elem_C hC i hi
 obtain rfl := Option.some.inj h3
 refine ⟨.slice A5 (l.getD i z41).f3.length c5, fun j u hj hu => ?_⟩
 have := atL_get (h4 W (Below.refl _ _)) j u hu
 rw [Nat.zero_add] at this
 rw [← this]
 unfold Addr.add
 rw [if_neg (show ¬ j = 0 by omega)]
theorem run_f1 {W : World} {ad : Addr} {n c : Nat} {l : List S41} (h : RunC W (.slice (some ad) n c) l) (i : Nat) (hi : i < l.length) : W.cell? ⟨(ad.add (i * 9)).block, (ad.add (i * 9)).off + 3, none⟩ = some (.int .i64 (l.getD i z41).f1) := by
 obtain ⟨v, hv⟩ := run_cells9 h i hi
 exact hv 3 _ (by omega) rfl
theorem run_f2 {W : World} {ad : Addr} {n c : Nat} {l : List S41} (h : RunC W (.slice (some ad) n c) l) (i : Nat) (hi : i < l.length) : W.cell? ⟨(ad.add (i * 9)).block, (ad.add (i * 9)).off + 4, none⟩ = some (.string (l.getD i z41).f2) := by
 obtain ⟨v, hv⟩ := run_cells9 h i hi
 exact hv 4 _ (by omega) rfl
theorem run_f1_0 {W : World} {ad : Addr} {n c : Nat} {l : List S41} (h : RunC W (.slice (some ad) n c) l) (hi : 0 < l.length) : W.cell? ⟨ad.block, ad.off + 3, none⟩ = some (.int .i64 (l.getD 0 z41).f1) := run_f1 h 0 hi
theorem run_f1_1 {W : World} {ad : Addr} {n c : Nat} {l : List S41} (h : RunC W (.slice (some ad) n c) l) (hi : 1 < l.length) : W.cell? ⟨ad.block, ad.off + 12, none⟩ = some (.int .i64 (l.getD 1 z41).f1) := run_f1 h 1 hi
theorem run_f2_0 {W : World} {ad : Addr} {n c : Nat} {l : List S41} (h : RunC W (.slice (some ad) n c) l) (hi : 0 < l.length) : W.cell? ⟨ad.block, ad.off + 4, none⟩ = some (.string (l.getD 0 z41).f2) := run_f2 h 0 hi
theorem run_f2_1 {W : World} {ad : Addr} {n c : Nat} {l : List S41} (h : RunC W (.slice (some ad) n c) l) (hi : 1 < l.length) : W.cell? ⟨ad.block, ad.off + 13, none⟩ = some (.string (l.getD 1 z41).f2) := run_f2 h 1 hi
end Go.Proofs.YtloccjkcmlkifaaDoor
end

section
/- XformBrings: every Bring is the document's. -/
namespace Go.Proofs.YtloccjkcmlkifaaDoor
open Go.RowKit Go.Proofs.YtloccjkcmlkifaaDoor.PAll Go.Proofs.YtloccjkcmlkifaaDoorW.PrintWords Go.Proofs.YtloccjkcmlkifaaDoorW.PrintLast

abbrev bA : S41 := insO 1 1 0 ⟨#[97, 98, 99]⟩
abbrev bD : S41 := insO 1 2 3 ⟨#[100]⟩
theorem bring_awake : bringE [bA, bD] 0 1 = ([insO 1 2 0 ⟨#[100]⟩, insO 1 1 0 ⟨#[97, 98, 99]⟩], 0) := by kernel_rfl
set_option maxRecDepth 100000 in
set_option maxHeartbeats 4000000 in
theorem XformBrings_any (l : List S100) (A : Option Addr) (c : Nat) (w : World) (hG : GW w) (hl : l.length ≤ 1048576) (h : k100.C w A l.length l) (hf : ∀ s ∈ l, fineStep s) : Calls Tryd.prog 15 #[.slice A l.length c] w (Yes w) := by
 have S := Aside0.mk (St.init w (F := fun _ => True) (fun _ _ => trivial))
 have HG := Aside0.mk hG; have HC := Aside0.mk h; have HL := Aside0.mk hl
 have HP : Aside0 (∀ s ∈ l, 6 ≤ s.f0 → s.f0 ≤ 6 → PlaysYes s) := ⟨fun s hs h1 h2 => plays_bring s (hf s hs) (by omega)⟩
 have HF : Aside0 (fineRun [bA, bD]) := ⟨by decide, fun x hx => by
  simp only [List.mem_cons, List.not_mem_nil, or_false] at hx
  rcases hx with rfl | rfl <;> exact fine_ins' _ _ _ _ (by decide)⟩
 clear hG h hl hf
 go_enter Tryd.func15, Tryd.ntmps15
 go_wp2_with (first | (go_at_call 25; (with_reducible refine (ins_any _ _ _ _ _).mono ?_); rintro e_ w7 ⟨rfl, hb⟩; replace S := Aside0.mk (S.out.step hb); clear hb) | (refine ev_lit S (opA bA (.slice none 0 0) ++ opA bD (.slice none 0 0)) 2 ?_; clear S; intro _ _ S) | (go_at_call 38; (with_reducible refine (bring_any [bA, bD] 0 1 _ _ (GW.below HG.out S.out.below) (runC_box2 (S.out.at_ 0 rfl) (opC_nil _ bA rfl) (opC_nil _ bD rfl)) HF.out).mono ?_); rintro e_ w7 ⟨v, rfl, hR, hb⟩; rw [bring_awake] at hR ⊢; obtain ⟨Av, cv, rfl⟩ := hR.C.slice; replace S := Aside0.mk (S.out.addRun1 hb hR); obtain ⟨av, rfl⟩ := run_addr hR.C (by decide); clear hb hR) | (go_at_call 23; (with_reducible refine (num_any _ _).mono ?_); rintro e_ w7 ⟨rfl, hb⟩; replace S := Aside0.mk (S.out.step hb); clear hb) | (go_at_call 51; (with_reducible refine (played_any l 6 6 A c _ (GW.below HG.out S.out.below) HL.out (Kd.C_below HC.out S.out.below) HP.out).mono ?_); rintro e_ w7 ⟨rfl, hb⟩; replace S := Aside0.mk (S.out.step hb); clear hb) | ((with_reducible refine gate_load rfl ?_); first | refine ev_cell (run_f1_0 S.out.now.2 (by decide)) ?_ | refine ev_cell (run_f2_0 S.out.now.2 (by decide)) ?_ | refine ev_cell (run_f1_1 S.out.now.2 (by decide)) ?_ | refine ev_cell (run_f2_1 S.out.now.2 (by decide)) ?_))
 go_ret
 exact ⟨rfl, S.out.below⟩
end Go.Proofs.YtloccjkcmlkifaaDoor
end
