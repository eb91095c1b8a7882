/- XformCrosses_card, part 40. -/
import Derived.Test.YtloccjkcmlkifaaDoorQCr39
import Derived.Test.YtloccjkcmlkifaaDoorQCr38
import Derived.Test.YtloccjkcmlkifaaDoorQCr26

section
/- The document's Cross answers as the program's. -/
namespace Go.Proofs.YtloccjkcmlkifaaDoor
open Go.RowKit Go.Proofs.YtloccjkcmlkifaaDoor.PAll Go.Proofs.YtloccjkcmlkifaaDoorW.PrintWords Go.Proofs.YtloccjkcmlkifaaDoorW.PrintLast

set_option maxRecDepth 100000 in
set_option maxHeartbeats 8000000 in
theorem rcross_any (f l : List S41) (vf vl : Value) (w : World) (hf : RunC w vf f) (hl : RunC w vl l) (ff : fineRun f) (fl : fineRun l) : Calls Tryd.prog 100 #[vf, vl] w (RetRuns w (crossE f l)) := by
 obtain ⟨A, c, rfl, h1, h2⟩ := hf
 obtain ⟨B, d, rfl, h3, h4⟩ := hl
 have S := Aside0.mk (St.init w (F := fun _ => True) (fun _ _ => trivial))
 have HA := Aside0.mk (runC_mk h1 h2); have HB := Aside0.mk (runC_mk h3 h4)
 have HF := Aside0.mk (show fineRun f ∧ fineRun l from ⟨ff, fl⟩)
 clear h1 h2 h3 h4 ff fl
 by_cases c1 : ownsE f = 0
 case neg =>
  have HM := Aside0.mk (show crossE f l = (([], []), ownsE f) from if_pos c1)
  have c1' : (ownsE f != 0) = true := bne_iff_ne.mpr c1
  have c1'' : (ownsE f == 0) = false := beq_eq_false_iff_ne.mpr c1
  clear c1
  go_enter Tryd.func100, Tryd.ntmps100
  go_wp2_with ((go_at_call 95; (with_reducible refine (rowns_any f _ _ (HA.out.below S.out.below) HF.out.1.2 HF.out.1.1).mono ?_); rintro e_ w7 ⟨rfl, hb⟩; replace S := Aside0.mk (S.out.step hb); clear hb))
  rw [HM.out]
  go_ret3
  exact ⟨_, _, rfl, runR_nil _ _, runR_nil _ _, S.out.below⟩
 have c1'' : (ownsE f == 0) = true := beq_iff_eq.mpr c1
 by_cases c2 : ownsE l = 0
 case neg =>
  have HM := Aside0.mk (show crossE f l = (([], []), ownsE l) by unfold crossE; rw [if_neg (fun h => h c1), if_pos c2])
  have c2' : (ownsE l != 0) = true := bne_iff_ne.mpr c2
  clear c1 c2
  go_enter Tryd.func100, Tryd.ntmps100
  go_wp2_with (first | (go_at_call 95; (with_reducible refine (rowns_any f _ _ (HA.out.below S.out.below) HF.out.1.2 HF.out.1.1).mono ?_); rintro e_ w7 ⟨rfl, hb⟩; replace S := Aside0.mk (S.out.step hb); clear hb) | (go_at_call 95; (with_reducible refine (rowns_any l _ _ (HB.out.below S.out.below) HF.out.2.2 HF.out.2.1).mono ?_); rintro e_ w7 ⟨rfl, hb⟩; replace S := Aside0.mk (S.out.step hb); clear hb))
  rw [HM.out]
  go_ret3
  exact ⟨_, _, rfl, runR_nil _ _, runR_nil _ _, S.out.below⟩
 have HR := Aside0.mk (show crossE f l = cout f [] l by unfold crossE; rw [if_neg (fun h => h c1), if_neg (fun h => h c2)])
 have HGD := Aside0.mk (show (∀ o ∈ f, Good o) ∧ ∀ o ∈ l, Good o from ⟨owns_good c1 HF.out.1.2, owns_good c2 HF.out.2.2⟩)
 have c2' : (ownsE l != 0) = false := bne_eq_false_iff_eq.mpr c2
 clear c1 c2
 go_enter Tryd.func100, Tryd.ntmps100
 go_wp2_with (first | (go_at_call 95; (with_reducible refine (rowns_any f _ _ (HA.out.below S.out.below) HF.out.1.2 HF.out.1.1).mono ?_); rintro e_ w7 ⟨rfl, hb⟩; replace S := Aside0.mk (S.out.step hb); clear hb) | (go_at_call 95; (with_reducible refine (rowns_any l _ _ (HB.out.below S.out.below) HF.out.2.2 HF.out.2.1).mono ?_); rintro e_ w7 ⟨rfl, hb⟩; replace S := Aside0.mk (S.out.step hb); clear hb) | (go_at_call 36; (with_reducible refine (copyRun_any f _ _ (HA.out.below S.out.below) HF.out.1.2 HF.out.1.1).mono ?_); rintro e_ w7 ⟨u, rfl, hR, hb⟩; obtain ⟨pf, bs, _, i, hpf, _, _, RF, S'⟩ := S.out.addRun hb hR (i := 0) (u := .slice none 0 0) (q := []) (.inl ⟨rfl, rfl⟩); obtain ⟨Af, cf, rfl⟩ := RF.slice; replace S := Aside0.mk S'; clear S' hb hR; replace RF := Aside0.mk RF; replace hpf := Aside0.mk hpf) | (go_at_call 36; (with_reducible refine (copyRun_any l _ _ (HB.out.below S.out.below) HF.out.2.2 HF.out.2.1).mono ?_); rintro e_ w7 ⟨u, rfl, hR, hb⟩; obtain ⟨pl, bs2, i2, j, hpl, hne, RF2, RL, S'⟩ := S.out.addRun hb hR RF.out; obtain ⟨Al, cl, rfl⟩ := RL.slice; replace S := Aside0.mk S'; clear S' hb hR RF; replace RF := Aside0.mk RF2; clear RF2; replace RL := Aside0.mk RL; replace hpl := Aside0.mk hpl; replace hne := Aside0.mk hne))
 have H0 := Aside0.mk (CrossO.mk (R := crossE f l) (pd := []) hne.out RF.out RL.out (S.out.weak fun _ h => ⟨h.1.2, h.2⟩) (goodP_of hpf.out HGD.out.1) (goodP_of hpl.out HGD.out.2) rfl rfl (by rw [HR.out, hpf.out, hpl.out]; rfl))
 have HN := Aside0.mk (show pf.length ≤ 1048576 ∧ pl.length ≤ 1048576 by
  have h1 := congrArg List.length hpf.out
  have h2 := congrArg List.length hpl.out
  rw [List.length_map] at h1 h2
  exact ⟨h1 ▸ HF.out.1.1, h2 ▸ HF.out.2.1⟩)
 obtain ⟨nf, hnf⟩ : ∃ n, n = pf.length := ⟨_, rfl⟩
 obtain ⟨nl, hnl⟩ : ∃ n, n = pl.length := ⟨_, rfl⟩
 rw [← hnf, ← hnl] at H0
 rw [← hnf, ← hnl] at HN
 rw [← hnf, ← hnl]
 clear S RF RL hpf hpl hne HR HGD hnf hnl
 go_loopw [10] (fun i' wr => ∃ (bs : List Bx) (i j : Nat) (pf pd pr : List OV), i' = .int .i64 (pd.length : Int) ∧ Aside0 (CrossO w (crossE f l) Af Al cf cl nf nl bs i j pf pd pr wr)) (fun i' _ => nl - (intOf i').toNat)
 case atStart => exact ⟨_, _, _, _, _, _, rfl, H0⟩
 case round =>
  obtain ⟨bs, i, j, pf, pd, pr, rfl, HO⟩ := hrel
  have S := Aside0.mk HO.out.st
  cases pr with
  | nil =>
   have hk : pd.length = nl := by have := HO.out.nl; simpa using this
   have hd : ¬ pd.length < nl := by omega
   have HE := Aside0.mk (show crossE f l = ((pf.map (·.1), pd.map (·.1)), 0) from HO.out.eq)
   clear hk
   go_wp2_with (fail)
   go_ret3
   rw [HE.out]
   have hl := HO.out.l
   rw [List.append_nil] at hl
   have h2 := S.out.now.2
   rw [List.append_nil] at h2
   exact ⟨_, _, rfl, HO.out.f.R S.out S.out.now.1 (by rw [HO.out.nf]; exact HN.out.1), hl.R S.out h2 (by have := HO.out.nl; rw [List.append_nil] at this; rw [this]; exact HN.out.2), S.out.below⟩
  | cons x pr =>
   have hlt : pd.length < nl := by have := HO.out.nl; simp at this; omega
   have HNL := Aside0.mk (show pd.length < 1048576 ∧ pd.length < nl from ⟨by have := HN.out.2; omega, hlt⟩)
   obtain ⟨RIN, hRIN⟩ : ∃ R, R = cin [] (pf.map (·.1)) x.1 := ⟨_, rfl⟩
   have HEQ := Aside0.mk (show crossE f l = if RIN.2 ≠ 0 then (([], []), RIN.2) else cout RIN.1.1 (pd.map (·.1) ++ [RIN.1.2]) (pr.map (·.1)) by rw [HO.out.eq, hRIN]; rfl)
   have HI := Aside0.mk (CrossI.mk (fd := []) HO.out.ne HO.out.f HO.out.l HO.out.st HO.out.gf HO.out.gl HO.out.nf HO.out.nl hRIN)
   clear HO hRIN
   go_wp2_with (fail)
   go_loopw [11] (fun i' wr => ∃ (bs : List Bx) (i j : Nat) (fd fr : List OV) (x : OV), i' = .int .i64 (fd.length : Int) ∧ Aside0 (CrossI w RIN Af Al cf cl nf nl pd pr bs i j fd fr x wr)) (fun i' _ => nf - (intOf i').toNat)
   case atStart => exact ⟨_, _, _, _, _, _, rfl, HI⟩
   case round =>
    obtain ⟨bs, i, j, fd, fr, x, rfl, HI⟩ := hrel
    have S := Aside0.mk HI.out.st
    cases fr with
    | nil =>
     have hk : fd.length = nf := by have := HI.out.nf; simpa using this
     have hd2 : ¬ fd.length < nf := by omega
     clear hk
     go_wp2_with (fail)
     go_roundw
     case rel =>
      refine ⟨bs, i, j, fd, pd ++ [x], pr, by rw [List.length_append, List.length_singleton]; exact cnt_step HNL.out.1, ⟨?_⟩⟩
      have h := HI.out
      have e := h.eq
      simp only [List.map_nil, cin] at e
      have a1 : pd ++ x :: pr = (pd ++ [x]) ++ pr := by simp
      have a2 : fd ++ [] = fd := List.append_nil fd
      exact ⟨h.ne, a2 ▸ h.f, a1 ▸ h.l, a1 ▸ a2 ▸ h.st, a2 ▸ h.gf, a1 ▸ h.gl, a2 ▸ h.nf, a1 ▸ h.nl, by rw [HEQ.out, e, if_neg (by simp)]; simp⟩
     case measure => exact cnt_less HNL.out.1 HNL.out.2
    | cons y fr =>
     obtain ⟨o, vo⟩ := x
     obtain ⟨q, vq⟩ := y
     have hlt : fd.length < nf := by have := HI.out.nf; simp at this; omega
     have hlk : (fd.length : Int) < (nf : Int) := by omega
     have hlk2 : (pd.length : Int) < (nl : Int) := by have := HNL.out.2; omega
     have hz1 : (0 : Int) ≤ (fd.length : Int) := by omega
     have hz2 : (0 : Int) ≤ (pd.length : Int) := by omega
     obtain ⟨Ao, co, rfl⟩ : ∃ A c, vo = .slice A o.f3.length c := (S.out.now.2 (o, vo) (by simp)).slice
     obtain ⟨Aq, cq, rfl⟩ : ∃ A c, vq = .slice A q.f3.length c := (S.out.now.1 (q, vq) (by simp)).slice
     have HM := Aside0.mk (show (o, Value.slice Ao o.f3.length co) ∈ pd ++ (o, Value.slice Ao o.f3.length co) :: pr ∧ (q, Value.slice Aq q.f3.length cq) ∈ fd ++ (q, Value.slice Aq q.f3.length cq) :: fr by simp)
     have HGO := Aside0.mk (show Good o ∧ Good q from ⟨HI.out.gl _ HM.out.1, HI.out.gf _ HM.out.2⟩)
     have HNF := Aside0.mk (show fd.length < 1048576 ∧ fd.length < nf from ⟨by have := HN.out.1; omega, hlt⟩)
     have RF := Aside0.mk HI.out.f
     have RL := Aside0.mk HI.out.l
     have HNE := Aside0.mk (show i + 1 + 1 ≠ j + 1 + 1 by have := HI.out.ne; omega)
     obtain ⟨ga, _, rfl, hq1⟩ := RF.out.at_
     obtain ⟨gb, _, rfl, hq2⟩ := RL.out.at_
     clear hq1 hq2
     obtain ⟨ad, had⟩ : ∃ ad : Addr, ad = ⟨ga, 0, none⟩ := ⟨_, rfl⟩
     obtain ⟨ae, hae⟩ : ∃ ad : Addr, ad = ⟨gb, 0, none⟩ := ⟨_, rfl⟩
     rw [← had] at HI RF ⊢
     rw [← hae] at HI RL ⊢
     clear had hae
     go_wp2_with (fail)
     (refine rg_start (n := 15) (fun W => ∃ top : List Bx, St w W (top ++ bs) _) [] ⟨[], S.out⟩ (fun _ ⟨t, h⟩ => ⟨t, h.drew⟩) ?_; clear S; rintro _ ⟨top, S⟩; refine pu_ 0 ?_; refine pu_ 1 ?_; refine pu_ 2 ?_; refine le_ 3 (opA o (.slice Ao o.f3.length co)) ⟨top, S⟩ (fun _ ⟨t, h⟩ => (h.drop (List.sublist_append_right t _)).atRun RL.out) ?_; refine pu_ 4 ?_; refine pu_ 5 ?_; refine pu_ 6 ?_; refine le_ 7 (opA q (.slice Aq q.f3.length cq)) ⟨top, S⟩ (fun _ ⟨t, h⟩ => (h.drop (List.sublist_append_right t _)).atRun RF.out) ?_; replace S := S.drop (List.sublist_append_right top _); clear top)
     (refine re_ (rc_ 8 ?_ (rc_ 12 ?_ AllReadyL.nil))); all_goals first | (intro K hK; refine kc_ #[.agg (opA o (.slice Ao o.f3.length co)), .agg (opA q (.slice Aq q.f3.length cq)), .bool true] ?_ Tryd.func96; refine (incE_ref o q true _ _ _ (S.now.2 _ HM.out.1).C (S.now.1 _ HM.out.2).C HGO.out.1 HGO.out.2).mono ?_; rintro e_ w7 ⟨v, rfl, hR, hb⟩; obtain ⟨Ai, ci, rfl⟩ := hR.slice; have S' := S.addOp hb hR; clear hb hR; refine ⟨_, rfl, hK.out _ _ ⟨[], S'.weak fun _ h => h.1⟩ (fun _ => ?_)⟩; clear hK S; have S := S'; clear S'; refine nr_ ?_; refine pu_ 9 ?_; refine pu_ 10 ?_; refine pu_ 11 ?_; refine re_ (rc_ 12 ?_ AllReadyL.nil); intro K hK; refine kn_ 41 zA S ?_; intro _ _ S'; refine hK.out _ _ ⟨[_], S'.weak fun _ h => h.1⟩ (fun _ => ?_); clear hK S; have S := S'; clear S'; refine nr_ ?_; refine re_ (rc_ 13 ?_ AllReadyL.nil); intro K hK; refine ks_ 0 S ?_; intro _ S'; refine hK.out _ _ ⟨[_], S'.weak fun _ h => h.1⟩ (fun _ => ?_); clear hK S; have S := S'; clear S'; refine pu_ 14 ?_; refine done_ (by kernel_rfl) ?_) | (intro K hK; refine kn_ 41 zA S ?_; intro _ _ S'; refine hK.out _ _ ⟨[_], S'⟩ (fun _ => ?_); clear hK S; have S := S'; clear S'; refine nr_ ?_; refine re_ (rc_ 8 ?_ AllReadyL.nil); intro K hK; refine kc_ #[.agg (opA o (.slice Ao o.f3.length co)), .agg (opA q (.slice Aq q.f3.length cq)), .bool true] ?_ Tryd.func96; refine (incE_ref o q true _ _ _ (S.now.2 _ HM.out.1).C (S.now.1 _ HM.out.2).C HGO.out.1 HGO.out.2).mono ?_; rintro e_ w7 ⟨v, rfl, hR, hb⟩; obtain ⟨Ai, ci, rfl⟩ := hR.slice; have S' := S.addOp hb hR; clear hb hR; refine ⟨_, rfl, hK.out _ _ ⟨[_], S'.weak fun _ h => h.1⟩ (fun _ => ?_)⟩; clear hK S; have S := S'; clear S'; refine nr_ ?_; refine pu_ 9 ?_; refine pu_ 10 ?_; refine pu_ 11 ?_; refine re_ (rc_ 13 ?_ AllReadyL.nil); intro K hK; refine ks_ 0 S ?_; intro _ S'; refine hK.out _ _ ⟨[_], S'.weak fun _ h => h.1⟩ (fun _ => ?_); clear hK S; have S := S'; clear S'; refine pu_ 14 ?_; refine done_ (by kernel_rfl) ?_)
     all_goals
      replace S := Aside0.mk S
      by_cases z1 : (incE o q true).2 = 0
      case neg =>
       have z1' : ((incE o q true).2 != 0) = true := bne_iff_ne.mpr z1
       have HE := Aside0.mk (show crossE f l = (([], []), (incE o q true).2) by
        have e := HI.out.eq
        simp only [List.map_cons, cin] at e
        rw [if_pos z1] at e
        rw [HEQ.out, e, if_pos z1])
       clear z1
       go_wp2_with (fail)
       rw [HE.out]
       go_ret3
       exact ⟨_, _, rfl, runR_nil _ _, runR_nil _ _, S.out.below⟩
      have z1' : ((incE o q true).2 != 0) = false := bne_eq_false_iff_eq.mpr z1
      have HZ1 := Aside0.mk z1
      clear z1
      go_wp2_with (fail)
      (refine rg_start (n := 15) (fun W => ∃ top : List Bx, St w W (top ++ (_ :: bs)) _) [] ⟨[], S.out⟩ (fun _ ⟨t, h⟩ => ⟨t, h.drew⟩) ?_; clear S; rintro _ ⟨top, S⟩; refine pu_ 0 ?_; refine pu_ 1 ?_; refine pu_ 2 ?_; refine le_ 3 (opA q (.slice Aq q.f3.length cq)) ⟨top, S⟩ (fun _ ⟨t, h⟩ => (h.drop (List.sublist_append_right t _)).atRun (RF.out.cons _)) ?_; refine pu_ 4 ?_; refine pu_ 5 ?_; refine pu_ 6 ?_; refine le_ 7 (opA o (.slice Ao o.f3.length co)) ⟨top, S⟩ (fun _ ⟨t, h⟩ => (h.drop (List.sublist_append_right t _)).atRun (RL.out.cons _)) ?_; replace S := S.drop (List.sublist_append_right top _); clear top)
      (refine re_ (rc_ 8 ?_ (rc_ 12 ?_ AllReadyL.nil))); all_goals first | (intro K hK; refine kc_ #[.agg (opA q (.slice Aq q.f3.length cq)), .agg (opA o (.slice Ao o.f3.length co)), .bool false] ?_ Tryd.func96; refine (incE_ref q o false _ _ _ (S.now.1.1 _ HM.out.2).C (S.now.1.2 _ HM.out.1).C HGO.out.2 HGO.out.1).mono ?_; rintro e_ w7 ⟨v, rfl, hR, hb⟩; obtain ⟨Aj, cj, rfl⟩ := hR.slice; have S' := S.addOp hb hR; clear hb hR; refine ⟨_, rfl, hK.out _ _ ⟨[], S'.weak fun _ h => h.1⟩ (fun _ => ?_)⟩; clear hK S; have S := S'; clear S'; refine nr_ ?_; refine pu_ 9 ?_; refine pu_ 10 ?_; refine pu_ 11 ?_; refine re_ (rc_ 12 ?_ AllReadyL.nil); intro K hK; refine kn_ 41 zA S ?_; intro _ _ S'; refine hK.out _ _ ⟨[_], S'.weak fun _ h => h.1⟩ (fun _ => ?_); clear hK S; have S := S'; clear S'; refine nr_ ?_; refine re_ (rc_ 13 ?_ AllReadyL.nil); intro K hK; refine ks_ 0 S ?_; intro _ S'; refine hK.out _ _ ⟨[_], S'.weak fun _ h => h.1⟩ (fun _ => ?_); clear hK S; have S := S'; clear S'; refine pu_ 14 ?_; refine done_ (by kernel_rfl) ?_) | (intro K hK; refine kn_ 41 zA S ?_; intro _ _ S'; refine hK.out _ _ ⟨[_], S'⟩ (fun _ => ?_); clear hK S; have S := S'; clear S'; refine nr_ ?_; refine re_ (rc_ 8 ?_ AllReadyL.nil); intro K hK; refine kc_ #[.agg (opA q (.slice Aq q.f3.length cq)), .agg (opA o (.slice Ao o.f3.length co)), .bool false] ?_ Tryd.func96; refine (incE_ref q o false _ _ _ (S.now.1.1 _ HM.out.2).C (S.now.1.2 _ HM.out.1).C HGO.out.2 HGO.out.1).mono ?_; rintro e_ w7 ⟨v, rfl, hR, hb⟩; obtain ⟨Aj, cj, rfl⟩ := hR.slice; have S' := S.addOp hb hR; clear hb hR; refine ⟨_, rfl, hK.out _ _ ⟨[_], S'.weak fun _ h => h.1⟩ (fun _ => ?_)⟩; clear hK S; have S := S'; clear S'; refine nr_ ?_; refine pu_ 9 ?_; refine pu_ 10 ?_; refine pu_ 11 ?_; refine re_ (rc_ 13 ?_ AllReadyL.nil); intro K hK; refine ks_ 0 S ?_; intro _ S'; refine hK.out _ _ ⟨[_], S'.weak fun _ h => h.1⟩ (fun _ => ?_); clear hK S; have S := S'; clear S'; refine pu_ 14 ?_; refine done_ (by kernel_rfl) ?_)
      all_goals
       replace S := Aside0.mk S
       by_cases z2 : (incE q o false).2 = 0
       case neg =>
        have z2' : ((incE q o false).2 != 0) = true := bne_iff_ne.mpr z2
        have HE := Aside0.mk (show crossE f l = (([], []), (incE q o false).2) by
         have e := HI.out.eq
         simp only [List.map_cons, cin] at e
         rw [if_neg (fun h => h HZ1.out), if_pos z2] at e
         rw [HEQ.out, e, if_pos z2])
        clear z2
        go_wp2_with (fail)
        rw [HE.out]
        go_ret3
        exact ⟨_, _, rfl, runR_nil _ _, runR_nil _ _, S.out.below⟩
       have z2' : ((incE q o false).2 != 0) = false := bne_eq_false_iff_eq.mpr z2
       have HE := Aside0.mk (show RIN = cin ((fd ++ [((incE q o false).1, Value.slice none 0 0)]).map (·.1)) (fr.map (·.1)) (incE o q true).1 by
        have e := HI.out.eq
        simp only [List.map_cons, cin] at e
        rw [if_neg (fun h => h HZ1.out), if_neg (fun h => h z2)] at e
        rw [e]; simp)
       have HGI := Aside0.mk (show Good (incE o q true).1 ∧ Good (incE q o false).1 from ⟨inc_good HGO.out.1 HGO.out.2 HZ1.out, inc_good HGO.out.2 HGO.out.1 z2⟩)
       clear z2
       go_wp2_with (first | ((with_reducible refine gate_load rfl ?_); refine ev_load S ?_) | ((with_reducible refine gate_st rfl ?_); refine ev_put S (Aside0.mk ((RL.out.cons _).cons _)) ((incE o q true).1, .slice Ai (incE o q true).1.f3.length ci) ?_; clear S; intro _ B S RL2 hoth) | ((with_reducible refine gate_st rfl ?_); refine ev_put S (Aside0.mk (hoth _ _ _ HNE.out ((RF.out.cons _).cons _))) ((incE q o false).1, .slice Aj (incE q o false).1.f3.length cj) ?_; clear S; intro _ B2 S RF2 hoth2))
       go_roundw
       case rel =>
        refine ⟨(bs.set j B).set i B2, i, j, fd ++ [((incE q o false).1, .slice Aj (incE q o false).1.f3.length cj)], fr, ((incE o q true).1, .slice Ai (incE o q true).1.f3.length ci), by rw [List.length_append, List.length_singleton]; exact cnt_step HNF.out.1, ⟨?_⟩⟩
        have h := HI.out
        have a1 : ∀ z : OV, (fd ++ [z]) ++ fr = fd ++ z :: fr := by simp
        have hnf := h.nf
        have hnl := h.nl
        refine ⟨h.ne, ?_, ?_, ?_, ?_, goodP_put h.gl HGI.out.1, ?_, ?_, by rw [HE.out]; simp⟩
        · rw [a1]; exact RF2.out.tail.tail
        · exact (hoth2 _ _ _ (Ne.symm HNE.out) RL2.out).tail.tail
        · rw [a1]; exact (S.out.drop (bs' := (bs.set j B).set i B2) ((List.sublist_cons_self _ _).trans (List.sublist_cons_self _ _))).weak fun _ h => ⟨ownP_put h.1.1.1 h.2, ownP_put h.1.1.2 h.1.2⟩
        · rw [a1]; exact goodP_put h.gf HGI.out.2
        · rw [a1]; simpa using hnf
        · simpa using hnl
       case measure => exact cnt_less HNF.out.1 HNF.out.2
end Go.Proofs.YtloccjkcmlkifaaDoor
end

section
/- A script is played: each of its steps of the kinds asked is answered as it must be. -/
namespace Go.Proofs.YtloccjkcmlkifaaDoor
open Go.RowKit Go.Proofs.YtloccjkcmlkifaaDoor.PAll Go.Proofs.YtloccjkcmlkifaaDoorW.PrintWords Go.Proofs.YtloccjkcmlkifaaDoorW.PrintLast

abbrev PlaysYes (s : S100) : Prop := ∀ (va vb vr vo : Value) (w : World), GW w → StepC w va vb vr vo s → Calls Tryd.prog 68 #[.agg (stA s va vb vr vo)] w (Yes w)
abbrev RunsYes (s : S100) : Prop := ∀ (va vb vr vo : Value) (w : World), GW w → StepC w va vb vr vo s → Calls Tryd.prog 82 #[.agg (stA s va vb vr vo)] w (Yes w)
set_option maxRecDepth 100000 in
set_option maxHeartbeats 4000000 in
theorem plays_runs (s : S100) (hk : s.f0 = 4 ∨ s.f0 = 5 ∨ s.f0 = 6) (hp : RunsYes s) : PlaysYes s := by
 intro va vb vr vo w hG h
 have S := Aside0.mk (St.init w (F := fun _ => True) (fun _ _ => trivial))
 have HG := Aside0.mk hG; have HS := Aside0.mk h; have HP := Aside0.mk hp
 clear hG h hp
 have c1 : (s.f0 == 1) = false := beq_eq_false_iff_ne.mpr (by omega)
 have c2 : (s.f0 == 2) = false := beq_eq_false_iff_ne.mpr (by omega)
 have c3 : (s.f0 == 3) = false := beq_eq_false_iff_ne.mpr (by omega)
 have hk' : (s.f0 == 4) = true ∨ (s.f0 == 4) = false ∧ (s.f0 == 5) = true ∨ (s.f0 == 4) = false ∧ (s.f0 == 5) = false ∧ (s.f0 == 6) = true := by
  rcases hk with h | h | h
  · exact .inl (beq_iff_eq.mpr h)
  · exact .inr (.inl ⟨beq_eq_false_iff_ne.mpr (by omega), beq_iff_eq.mpr h⟩)
  · exact .inr (.inr ⟨beq_eq_false_iff_ne.mpr (by omega), beq_eq_false_iff_ne.mpr (by omega), beq_iff_eq.mpr h⟩)
 clear hk
 rcases hk' with c4 | ⟨c4, c5⟩ | ⟨c4, c5, c6⟩
 all_goals
  go_enter Tryd.func68, Tryd.ntmps68
  go_wp2_with (first | ((with_reducible refine gate_box rfl ?_); refine ev_box S ?_; clear S; intro _ _ S) | ((with_reducible refine gate_load rfl ?_); first | refine ev_load S ?_ | refine ev_fld S ?_) | (go_at_call 82; (with_reducible refine (HP.out _ _ _ _ _ (GW.below HG.out S.out.below) (HS.out.below S.out.below)).mono ?_); rintro e_ w7 ⟨rfl, hb⟩; replace S := Aside0.mk (S.out.step hb); clear hb))
  go_ret
  exact ⟨rfl, S.out.below⟩
theorem elem_S {w : World} {A : Option Addr} {l : List S100} (h : k100.C w A l.length l) (i : Nat) (hi : i < l.length) :
 ∃ ad va vb vr vo, A = some ad ∧ (∀ W, Below w.heap.size w W → atL W (ad.add (i * 24)) 0 (stA (l.getD i z100) va vb vr vo).toList) ∧ StepC w va vb vr vo (l.getD i z100) := by
 obtain ⟨ad, c, e, _, hK, hc⟩ := Kd.C_get h z100 (i : Int) (by omega) (by omega)
 rw [Int.toNat_natCast] at hK hc
 obtain ⟨A6, c6, A15, c15, A19, c19, A20, c20, rfl, l6, g6, l15, g15, l19, g19, l20, g20⟩ := k100_open hK
 refine ⟨ad, _, _, _, _, e, fun W hb => atL_mk fun j v hj => ?_, ⟨opC_mk l6 g6, opC_mk l15 g15, runC_mk l19 g19, runC_mk l20 g20⟩⟩
 have := hc j v hj
 have h2 : W.cell? (ad.add (i * 24 + j)) = some v := pw_cell_below hb this
 have h3 : (ad.add (i * 24)).add (0 + j) = ad.add (i * 24 + j) := by
  by_cases hj0 : j = 0
  · subst hj0
    rfl
  · rw [add_field ad (i * 24) j (by omega)]
    unfold Addr.add
    rw [if_neg (by omega), Nat.zero_add]
 rw [h3]; exact h2
abbrev zS : Array Value := #[.int .i64 0, .int .i64 0, .int .i64 0, .int .i64 0, .int .i64 0, .string ⟨#[]⟩, .slice none 0 0, .int .i64 0, .int .i64 0, .bool false, .int .i64 0, .int .i64 0, .int .i64 0, .int .i64 0, .string ⟨#[]⟩, .slice none 0 0, .int .i64 0, .int .i64 0, .bool false, .slice none 0 0, .slice none 0 0, .bool false, .int .i64 0, .int .i64 0]
set_option maxRecDepth 100000 in
set_option maxHeartbeats 4000000 in
theorem played_any (l : List S100) (lo hi : Int) (A : Option Addr) (c : Nat) (w : World) (hG : GW w) (hl : l.length ≤ 1048576) (h : k100.C w A l.length l) (hP : ∀ s ∈ l, lo ≤ s.f0 → s.f0 ≤ hi → PlaysYes s) :
 Calls Tryd.prog 51 #[.slice A l.length c, .int .i64 lo, .int .i64 hi] w (Yes w) := by
 have HE := Aside0.mk (fun i hi => elem_S h i hi)
 have HG := Aside0.mk hG; have HP := Aside0.mk hP
 obtain ⟨n, hn⟩ : ∃ n, n = l.length := ⟨_, rfl⟩
 rw [← hn] at hl ⊢
 have HN := Aside0.mk hn
 have S := Aside0.mk (St.init w (F := fun _ => True) (fun _ _ => trivial))
 clear hG hP h hn
 go_enter Tryd.func51, Tryd.ntmps51
 go_wp2_with (fail)
 go_loopw [7] (fun i' wr => ∃ k : Nat, k ≤ n ∧ i' = .int .i64 (k : Int) ∧ Aside0 (St w wr [] (fun _ => True))) (fun i' _ => n - (intOf i').toNat)
 case atStart => exact ⟨0, Nat.zero_le _, rfl, S⟩
 case round =>
  obtain ⟨k, hk, rfl, HA⟩ := hrel
  have S := HA
  by_cases hlt : k < n
  · have hlt' : k < l.length := by rw [← HN.out]; exact hlt
    obtain ⟨ad, va, vb, vr, vo, rfl, hat, hst⟩ := HE.out k hlt'
    have hm : l.getD k z100 ∈ l := by rw [List.getD_eq_getElem?_getD, List.getElem?_eq_getElem hlt']; exact List.getElem_mem hlt'
    obtain ⟨x, hx⟩ : ∃ x, x = l.getD k z100 := ⟨_, rfl⟩
    rw [← hx] at hat hst hm
    obtain ⟨⟨Aa, ca, rfl, p1, p2⟩, ⟨Ab, cb, rfl, p3, p4⟩, ⟨Ar, cr, rfl, p5, p6⟩, ⟨Ao, co, rfl, p7, p8⟩⟩ := hst
    have HAT := Aside0.mk hat
    have HST := Aside0.mk (show StepC w _ _ _ _ x from ⟨opC_mk p1 p2, opC_mk p3 p4, runC_mk p5 p6, runC_mk p7 p8⟩)
    clear p1 p2 p3 p4 p5 p6 p7 p8
    have hpx := HP.out x hm
    clear hat hx hm
    have hlk : (k : Int) < (n : Int) := by omega
    have hk0 : (0 : Int) ≤ (k : Int) := by omega
    by_cases c1 : lo ≤ x.f0
    · have c1' : decide (lo ≤ x.f0) = true := decide_eq_true c1
      by_cases c2 : x.f0 ≤ hi
      · have c2' : decide (x.f0 ≤ hi) = true := decide_eq_true c2
        have HPX := Aside0.mk (hpx c1 c2)
        clear c1 c2 hpx
        go_wp2_with (first | ((with_reducible refine gate_new rfl ?_); refine ev_new S 100 zS ?_; clear S; intro _ _ S) | ((with_reducible refine gate_load rfl ?_); first | refine ev_load S ?_ | refine ev_fld S ?_) | ((with_reducible refine gate_load rfl ?_); refine ev_ext _ (HAT.out _ S.out.below) ?_) | ((with_reducible refine gate_st rfl ?_); refine ev_store S ?_; clear S; intro _ S) | (go_at_call 68; (with_reducible refine (HPX.out _ _ _ _ _ (GW.below HG.out S.out.below) (HST.out.below S.out.below)).mono ?_); rintro e_ w7 ⟨rfl, hb⟩; replace S := Aside0.mk (S.out.step hb); clear hb))
        go_roundw
        case rel => exact ⟨k + 1, by omega, by go_num, ⟨(S.out.drop (List.nil_sublist _)).weak fun _ _ => trivial⟩⟩
        case measure => simp [intOf]; omega
      · have c2' : decide (x.f0 ≤ hi) = false := decide_eq_false c2
        clear c1 c2 hpx
        go_wp2_with (first | ((with_reducible refine gate_new rfl ?_); refine ev_new S 100 zS ?_; clear S; intro _ _ S) | ((with_reducible refine gate_load rfl ?_); first | refine ev_load S ?_ | refine ev_fld S ?_) | ((with_reducible refine gate_load rfl ?_); refine ev_ext _ (HAT.out _ S.out.below) ?_) | ((with_reducible refine gate_st rfl ?_); refine ev_store S ?_; clear S; intro _ S))
        go_roundw
        case rel => exact ⟨k + 1, by omega, by go_num, ⟨(S.out.drop (List.nil_sublist _)).weak fun _ _ => trivial⟩⟩
        case measure => simp [intOf]; omega
    · have c1' : decide (lo ≤ x.f0) = false := decide_eq_false c1
      clear c1 hpx
      go_wp2_with (first | ((with_reducible refine gate_new rfl ?_); refine ev_new S 100 zS ?_; clear S; intro _ _ S) | ((with_reducible refine gate_load rfl ?_); first | refine ev_load S ?_ | refine ev_fld S ?_) | ((with_reducible refine gate_load rfl ?_); refine ev_ext _ (HAT.out _ S.out.below) ?_) | ((with_reducible refine gate_st rfl ?_); refine ev_store S ?_; clear S; intro _ S))
      go_roundw
      case rel => exact ⟨k + 1, by omega, by go_num, ⟨(S.out.drop (List.nil_sublist _)).weak fun _ _ => trivial⟩⟩
      case measure => simp [intOf]; omega
  · obtain rfl : k = n := by omega
    go_wp2_with (fail)
    go_ret
    exact ⟨rfl, S.out.below⟩
end Go.Proofs.YtloccjkcmlkifaaDoor
end

section
/- xform.exclude, told of whole operations. -/
namespace Go.Proofs.YtloccjkcmlkifaaDoor
open Go.RowKit Go.Proofs.YtloccjkcmlkifaaDoor.PAll Go.Proofs.YtloccjkcmlkifaaDoorW.PrintWords

attribute [local go_sem high] eqA35 idx35_0 idx35_1
end Go.Proofs.YtloccjkcmlkifaaDoor
end

section
/- span.Back, of ranges in order. -/
namespace Go.Proofs.YtloccjkcmlkifaaDoor
open Go.RowKit Go.Proofs.YtloccjkcmlkifaaDoor.PAll Go.Proofs.YtloccjkcmlkifaaDoorW.PrintWords

theorem lastLe.mono {acc : List S94} {p q : Int} (h : lastLe acc p) (hq : p ≤ q) : lastLe acc q := fun h0 => Int.le_trans (h h0) hq
section
variable (L : List S94) (p n : Int) (hp : 0 ≤ p ∧ p ≤ 1048576) (hn : 1 ≤ n ∧ n ≤ 1048576) (hL : L.length ≤ 1048576)
include hp hn hL
end
end Go.Proofs.YtloccjkcmlkifaaDoor
end

section
/- xform.transpose, told of whole operations. -/
namespace Go.Proofs.YtloccjkcmlkifaaDoor
open Go.RowKit Go.Proofs.YtloccjkcmlkifaaDoor.PAll Go.Proofs.YtloccjkcmlkifaaDoorW.PrintWords Go.Proofs.YtloccjkcmlkifaaDoorW.PrintLast

attribute [local go_sem high] eqA35 idx35_0 idx35_1
end Go.Proofs.YtloccjkcmlkifaaDoor
end

section
/- How long an answer's ranges may be. -/
namespace Go.Proofs.YtloccjkcmlkifaaDoor
open Go.RowKit Go.Proofs.YtloccjkcmlkifaaDoor.PAll Go.Proofs.YtloccjkcmlkifaaDoorW.PrintWords

theorem move_len (a : S41) (p : Int) : (moveE a p).1.f3.length ≤ 1048576 := by
 unfold moveE; split
 · show z41.f3.length ≤ _; exact Nat.zero_le _
 · exact Nat.zero_le _
theorem inc_len (a b : S41) (e : Bool) (h : a.f3.length ≤ 1048576) : (incE a b e).1.f3.length ≤ 1048576 := by
 unfold incE incP
 split
 · exact Nat.zero_le _
 · split
   · exact h
   · split
     · split
       · exact move_len _ _
       · exact h
     · split
       · unfold rangedE; split
         · show (thrE a.f3 b.f1 (wid b)).1.length ≤ 1048576
           unfold thrE bnd
           split
           · exact Nat.zero_le _
           · split
             · exact Nat.zero_le _
             · show (thrS b.f1 (wid b) a.f3).length ≤ _; omega
         · exact Nat.zero_le _
       · exact h
end Go.Proofs.YtloccjkcmlkifaaDoor
end

section
/- A step of kind 5 (Cross) is answered as the document says. -/
namespace Go.Proofs.YtloccjkcmlkifaaDoor
open Go.RowKit Go.Proofs.YtloccjkcmlkifaaDoor.PAll Go.Proofs.YtloccjkcmlkifaaDoorW.PrintWords Go.Proofs.YtloccjkcmlkifaaDoorW.PrintLast

abbrev short (o : S41) : Prop := o.f3.length ≤ 1048576
theorem cin_fine : ∀ (fr fd : List S41) (l : S41), (∀ o ∈ fd, short o) → (∀ o ∈ fr, short o) → short l → (∀ o ∈ (cin fd fr l).1.1, short o) ∧ short (cin fd fr l).1.2 ∧ (cin fd fr l).1.1.length ≤ fd.length + fr.length
 | [], fd, l, h1, _, h3 => ⟨h1, h3, by simp [cin]⟩
 | f :: fr, fd, l, h1, h2, h3 => by
  unfold cin
  by_cases c1 : (incE l f true).2 ≠ 0
  · rw [if_pos c1]; exact ⟨by simp, Nat.zero_le _, Nat.zero_le _⟩
  rw [if_neg c1]
  by_cases c2 : (incE f l false).2 ≠ 0
  · rw [if_pos c2]; exact ⟨by simp, Nat.zero_le _, Nat.zero_le _⟩
  rw [if_neg c2]
  have := cin_fine fr (fd ++ [(incE f l false).1]) (incE l f true).1 (fun o ho => by
   rcases List.mem_append.1 ho with ho | ho
   · exact h1 o ho
   · rw [List.mem_singleton.1 ho]; exact inc_len _ _ _ (h2 f (by simp))) (fun o ho => h2 o (by simp [ho])) (inc_len _ _ _ h3)
  refine ⟨this.1, this.2.1, Nat.le_trans this.2.2 ?_⟩
  simp; omega
theorem cout_fine : ∀ (lr ld fs : List S41), (∀ o ∈ fs, short o) → (∀ o ∈ ld, short o) → (∀ o ∈ lr, short o) → ((∀ o ∈ (cout fs ld lr).1.1, short o) ∧ ∀ o ∈ (cout fs ld lr).1.2, short o) ∧ (cout fs ld lr).1.1.length ≤ fs.length ∧ (cout fs ld lr).1.2.length ≤ ld.length + lr.length
 | [], ld, fs, h1, h2, _ => ⟨⟨h1, h2⟩, Nat.le_refl _, Nat.le_refl _⟩
 | l :: lr, ld, fs, h1, h2, h3 => by
  have hc := cin_fine fs [] l (by simp) h1 (h3 l (by simp))
  unfold cout
  by_cases c1 : (cin [] fs l).2 ≠ 0
  · rw [if_pos c1]; exact ⟨⟨by simp, by simp⟩, Nat.zero_le _, Nat.zero_le _⟩
  rw [if_neg c1]
  have := cout_fine lr (ld ++ [(cin [] fs l).1.2]) (cin [] fs l).1.1 hc.1 (fun o ho => by
   rcases List.mem_append.1 ho with ho | ho
   · exact h2 o ho
   · rw [List.mem_singleton.1 ho]; exact hc.2.1) (fun o ho => h3 o (by simp [ho]))
  have h4 := hc.2.2
  simp at this h4 ⊢
  exact ⟨this.1, by omega, by omega⟩
theorem cross_fine (f l : List S41) (hf : fineRun f) (hl : fineRun l) : ((∀ o ∈ (crossE f l).1.1, short o) ∧ ∀ o ∈ (crossE f l).1.2, short o) ∧ (crossE f l).1.1.length ≤ 1048576 ∧ (crossE f l).1.2.length ≤ 1048576 := by
 unfold crossE
 split
 · exact ⟨⟨by simp, by simp⟩, Nat.zero_le _, Nat.zero_le _⟩
 · split
   · exact ⟨⟨by simp, by simp⟩, Nat.zero_le _, Nat.zero_le _⟩
   · have := cout_fine l [] f (fun o ho => (hf.2 o ho).2) (by simp) (fun o ho => (hl.2 o ho).2)
     refine ⟨this.1, Nat.le_trans this.2.1 hf.1, Nat.le_trans this.2.2 ?_⟩
     have := hl.1
     simpa using this
theorem RunC.slice {w : World} {v : Value} {l : List S41} (h : RunC w v l) : ∃ A c, v = .slice A l.length c := by
 obtain ⟨A, c, e, _⟩ := h
 exact ⟨A, c, e⟩
theorem St.addRuns {w0 w w' : World} {bs : List Bx} {F : World → Prop} {v u : Value} {l m : List S41} (S : St w0 w bs F) (hb : Below w.heap.size w w') (h1 : RunR w' w.heap.size v l) (h2 : RunR w' w.heap.size u m) : St w0 w' bs (fun W => F W ∧ RunC W v l ∧ RunC W u m) := S.add hb (Foot.and h1 h2)
set_option maxRecDepth 100000 in
set_option maxHeartbeats 4000000 in
theorem sameRun_any (l : List S41) (v u : Value) (w : World) (hv : RunC w v l) (hu : RunC w u l) (hl : l.length ≤ 1048576) (hs : ∀ o ∈ l, short o) : Calls Tryd.prog 41 #[v, u] w (Yes w) := by
 obtain ⟨A, c, rfl, h1, h2⟩ := hv
 obtain ⟨B, d, rfl, h3, h4⟩ := hu
 have S := Aside0.mk (St.init w (F := fun _ => True) (fun _ _ => trivial))
 have HE := Aside0.mk (fun i hi => elem_C h2 i hi)
 have HE2 := Aside0.mk (fun i hi => elem_C h4 i hi)
 have HS := Aside0.mk hs
 obtain ⟨n, hn⟩ : ∃ n, n = l.length := ⟨_, rfl⟩
 rw [← hn] at hl ⊢
 have HN := Aside0.mk hn
 have HL := Aside0.mk hl
 clear h1 h2 h3 h4 hs hn hl
 go_enter Tryd.func41, Tryd.ntmps41
 go_wp2_with (fail)
 go_loopw [5] (fun i' wr => ∃ k : Nat, k ≤ n ∧ i' = .int .i64 (k : Int) ∧ Aside0 (St w wr [] (fun _ => True))) (fun i' _ => n - (intOf i').toNat)
 case atStart => exact ⟨0, Nat.zero_le _, rfl, S⟩
 case round =>
  obtain ⟨k, hk, rfl, HA⟩ := hrel
  have S := HA
  by_cases hlt : k < n
  · have hlt' : k < l.length := by rw [← HN.out]; exact hlt
    obtain ⟨ad, A5, c5, rfl, hat, hop⟩ := HE.out k hlt'
    obtain ⟨ae, A6, c6, rfl, hat2, hop2⟩ := HE2.out k hlt'
    have hm : l.getD k z41 ∈ l := by rw [List.getD_eq_getElem?_getD, List.getElem?_eq_getElem hlt']; exact List.getElem_mem hlt'
    obtain ⟨o, ho⟩ : ∃ x, x = l.getD k z41 := ⟨_, rfl⟩
    rw [← ho] at hat hop hat2 hop2 hm
    have HAT := Aside0.mk hat; have HAT2 := Aside0.mk hat2
    have HO1 := Aside0.mk hop; have HO2 := Aside0.mk hop2
    have HL3 := Aside0.mk (show o.f3.length ≤ 4611686018427387904 by have := HS.out o hm; omega)
    have HK := Aside0.mk (show k < 1048576 ∧ k < n by have := HL.out; omega)
    have hlk : (k : Int) < (n : Int) := by omega
    have hk0 : (0 : Int) ≤ (k : Int) := by omega
    clear hat hop hat2 hop2 hm ho hlt'
    go_wp2_with (fail)
    refine rg_start (n := 10) (fun W => St w W [] (fun _ => True)) [] S.out (fun _ h => h.drew) ?_
    clear S
    intro _ S
    refine pu_ 0 ?_; refine pu_ 1 ?_; refine pu_ 2 ?_; refine le_ 3 (opA o (.slice A5 o.f3.length c5)) S (fun _ h => HAT.out _ h.below) ?_
    refine pu_ 4 ?_; refine pu_ 5 ?_; refine pu_ 6 ?_; refine le_ 7 (opA o (.slice A6 o.f3.length c6)) S (fun _ h => HAT2.out _ h.below) ?_
    refine cl_ 8 #[.agg (opA o (.slice A5 o.f3.length c5)), .agg (opA o (.slice A6 o.f3.length c6))] ?_ Tryd.func43
    refine (sameOp_any o _ _ _ (HO1.out.below S.below) (HO2.out.below S.below) HL3.out).mono ?_; rintro e_ w7 ⟨rfl, hb⟩
    refine ⟨_, rfl, S.step hb, fun S' => ?_⟩
    clear S hb
    have S := S'
    clear S'
    refine nr_ ?_
    refine pu_ 9 ?_; refine done_ (by kernel_rfl) ?_
    replace S := Aside0.mk S
    go_wp2_with (fail)
    go_roundw
    case rel => exact ⟨k + 1, by omega, cnt_step HK.out.1, S⟩
    case measure => exact cnt_less HK.out.1 HK.out.2
  · obtain rfl : k = n := by omega
    go_wp2_with (fail)
    go_ret
    exact ⟨rfl, S.out.below⟩
set_option maxRecDepth 100000 in
set_option maxHeartbeats 8000000 in
theorem runs_cross (s : S100) (va vb vr vo : Value) (w : World) (hG : GW w) (h : StepC w va vb vr vo s) (k5 : s.f0 = 5) (hf : fineRun s.f3) (hfo : fineRun s.f4) : Calls Tryd.prog 82 #[.agg (stA s va vb vr vo)] w (Yes w) := by
 obtain ⟨⟨A, c, rfl, _, _⟩, ⟨A', c', rfl, _, _⟩, ⟨B, d, rfl, h1, h2⟩, ⟨B', d', rfl, h3, h4⟩⟩ := h
 have S := Aside0.mk (St.init w (F := fun _ => True) (fun _ _ => trivial))
 have HR := Aside0.mk (runC_mk h1 h2); have HO := Aside0.mk (runC_mk h3 h4)
 have HG := Aside0.mk hG; have HF := Aside0.mk (show fineRun s.f3 ∧ fineRun s.f4 from ⟨hf, hfo⟩)
 have HX := Aside0.mk (cross_fine s.f3 s.f4 hf hfo)
 have k4' : (s.f0 == 4) = false := beq_eq_false_iff_ne.mpr (by omega)
 have k5' : (s.f0 == 5) = true := beq_iff_eq.mpr k5
 clear h1 h2 h3 h4 hG hf hfo k5
 go_enter Tryd.func82, Tryd.ntmps82
 go_wp2_with (first | ((with_reducible refine gate_box rfl ?_); refine ev_box S ?_; clear S; intro _ _ S) | ((with_reducible refine gate_load rfl ?_); refine ev_fld S ?_))
 refine rg_start (n := 14) (fun W => St w W _ (fun _ => True)) [] (S.out.weak fun _ _ => trivial) (fun _ h => h.drew) ?_
 clear S
 intro _ S
 refine pu_ 0 ?_; refine fl_ 1 0 S ?_; refine pu_ 3 ?_; refine fl_ 4 0 S ?_
 refine cl_ 2 #[.slice B s.f3.length d] ?_ Tryd.func36; refine (copyRun_any s.f3 _ _ (HR.out.below S.below) HF.out.1.2 HF.out.1.1).mono ?_; rintro e_ w7 ⟨v, rfl, hR, hb⟩; have S' := S.addS hb hR; obtain ⟨Ar, cr, rfl⟩ := Kd.S_slice hR; clear hb hR; refine ⟨_, rfl, S'.weak fun _ _ => trivial, fun _ => ?_⟩; clear S; have S := S'; clear S'; refine nr_ ?_
 refine cl_ 5 #[.slice B' s.f4.length d'] ?_ Tryd.func36; refine (copyRun_any s.f4 _ _ (HO.out.below S.below) HF.out.2.2 HF.out.2.1).mono ?_; rintro e_ w7 ⟨v, rfl, hR, hb⟩; have S' := S.addS hb hR; obtain ⟨Aq, cq, rfl⟩ := Kd.S_slice hR; clear hb hR; refine ⟨_, rfl, S'.weak fun _ _ => trivial, fun _ => ?_⟩; clear S; have S := S'; clear S'; refine nr_ ?_
 refine cl_ 6 #[.slice Ar s.f3.length cr, .slice Aq s.f4.length cq] ?_ Tryd.func35; refine (cross_any s.f3 s.f4 _ _ _ (GW.below HG.out S.below) (OwnRun.C S.now.1.2) (OwnRun.C S.now.2) HF.out.1 HF.out.2).mono ?_; rintro e_ w7 ⟨v, v2, rfl, hR, hR2, hb⟩; have S' := S.addRuns hb hR hR2; obtain ⟨Av, cv, rfl⟩ := hR.C.slice; obtain ⟨Aw, cw, rfl⟩ := hR2.C.slice; clear hb hR hR2; refine ⟨_, rfl, S'.weak fun _ _ => trivial, fun _ => ?_⟩; clear S; have S := S'; clear S'; refine nr_ ?_
 refine pu_ 7 ?_; refine pu_ 8 ?_; refine pu_ 9 ?_; refine pu_ 10 ?_; refine pu_ 11 ?_; refine pu_ 12 ?_; refine pu_ 13 ?_; refine done_ (by kernel_rfl) ?_
 replace S := Aside0.mk S
 go_wp2_with (first | ((with_reducible refine gate_load rfl ?_); refine ev_fld S ?_) | (go_at_call 100; (with_reducible refine (rcross_any s.f3 s.f4 _ _ _ (HR.out.below S.out.below) (HO.out.below S.out.below) HF.out.1 HF.out.2).mono ?_); rintro e_ w7 ⟨v, v2, rfl, hR, hR2, hb⟩; obtain ⟨Au, cu, rfl⟩ := hR.C.slice; obtain ⟨Az, cz, rfl⟩ := hR2.C.slice; replace S := Aside0.mk (S.out.addRuns hb hR hR2); clear hb hR hR2) | (go_at_call 23; (with_reducible refine (num_any _ _).mono ?_); rintro e_ w7 ⟨rfl, hb⟩; replace S := Aside0.mk (S.out.step hb); clear hb) | (go_at_call 41; (with_reducible refine (sameRun_any (crossE s.f3 s.f4).1.1 _ _ _ S.out.now.1.2.1 S.out.now.2.1 HX.out.2.1 HX.out.1.1).mono ?_); rintro e_ w7 ⟨rfl, hb⟩; replace S := Aside0.mk (S.out.step hb); clear hb) | (go_at_call 41; (with_reducible refine (sameRun_any (crossE s.f3 s.f4).1.2 _ _ _ S.out.now.1.2.2 S.out.now.2.2 HX.out.2.2 HX.out.1.2).mono ?_); rintro e_ w7 ⟨rfl, hb⟩; replace S := Aside0.mk (S.out.step hb); clear hb))
 go_ret
 exact ⟨rfl, S.out.below⟩
theorem plays_cross (s : S100) (hf : fineStep s) (h : s.f0 = 5) : PlaysYes s :=
 plays_runs s (.inr (.inl h)) fun va vb vr vo w hG hS => runs_cross s va vb vr vo w hG hS h hf.2.2.1 hf.2.2.2
end Go.Proofs.YtloccjkcmlkifaaDoor
end

section
/- An insert as the statements make it. -/
namespace Go.Proofs.YtloccjkcmlkifaaDoor
open Go.RowKit Go.Proofs.YtloccjkcmlkifaaDoor.PAll Go.Proofs.YtloccjkcmlkifaaDoorW.PrintWords Go.Proofs.YtloccjkcmlkifaaDoorW.PrintLast

abbrev insO (c n at_ : Int) (t : ByteArray) : S41 := ⟨⟨⟨c, n⟩, 1⟩, at_, t, [], ⟨0, 0⟩, false⟩
theorem opC_nil (w : World) (o : S41) (h : o.f3 = []) : OpC w (.slice none 0 0) o := by
 have e : k94.C w none 0 [] := by
  have := (opR_nil w 0).C
  obtain ⟨A, c, e, _, h⟩ := this
  injection e with e1 _ _
  rw [← e1] at h; exact h
 exact ⟨none, 0, by rw [h]; rfl, by rw [h]; exact Nat.le_refl _, by rw [h]; exact e⟩
theorem ins_any (c n at_ : Int) (t : ByteArray) (w : World) : Calls Tryd.prog 25 #[.int .i64 c, .int .i64 n, .int .i64 at_, .string t] w fun e w' => e = .returned (.agg (opA (insO c n at_ t) (.slice none 0 0))) ∧ Below w.heap.size w w' := by
 have S := Aside0.mk (St.init w (F := fun _ => True) (fun _ _ => trivial))
 go_enter Tryd.func25, Tryd.ntmps25
 go_wp2_with (first | ((with_reducible refine gate_new rfl ?_); refine ev_new S 41 zA ?_; clear S; intro _ _ S) | ((with_reducible refine gate_st rfl ?_); refine ev_store S ?_; clear S; intro _ S))
 exact bodyPost_ret (results_cell_row rfl _ _ _ 41 _ (0, 0) _ rfl (S.out.at_ 0 rfl) Tryd.underlying41 rfl (by kernel_rfl)) rfl ⟨rfl, S.out.below⟩
end Go.Proofs.YtloccjkcmlkifaaDoor
end

section
/- XformCrosses: every Cross is the document's. -/
namespace Go.Proofs.YtloccjkcmlkifaaDoor
open Go.RowKit Go.Proofs.YtloccjkcmlkifaaDoor.PAll Go.Proofs.YtloccjkcmlkifaaDoorW.PrintWords Go.Proofs.YtloccjkcmlkifaaDoorW.PrintLast

abbrev cE : S41 := insO 1 1 2 ⟨#[69]⟩
abbrev cL : S41 := insO 2 1 2 ⟨#[76]⟩
abbrev cM : S41 := insO 2 2 2 ⟨#[77]⟩
theorem cross_awake : crossE [cE] [cL, cM] = (([insO 1 1 2 ⟨#[69]⟩], [insO 2 1 3 ⟨#[76]⟩, insO 2 2 3 ⟨#[77]⟩]), 0) := by kernel_rfl
theorem fine_ins' (c n p : Int) (t : ByteArray) (h : t.size ≤ 1048576) : fineOp (insO c n p t) := ⟨h, by simp⟩
section
variable {P : Program} {ops : Array Oper} {rest : List Oper} {o : Oper} {a : Act} {Q : Exit → Act → World → Prop} {W : World}
theorem ev_cell {p : Addr} {v : Value} (hc : W.cell? p = some v) {N : Tmp} {ty : TypeId} {x : Operand}
 (h : wpList P ops Q rest (a.put (some N) v) W)
 (ho : o.op = .load ty x := by rfl) (hx : a.eval x = .pointer (some p) := by rfl) (hd : o.dst = some N := by rfl)
 (hw : Region.wanted o (yielded ops a.tmps) = true := by first | exact wanted_plain rfl | (refine wanted_on rfl ?_; first | (simp [yielded]; done) | rfl))
 (hrun : W.cell? p = some v → (execOp a.eval o).run P W = .ok (.value v) W := by intro hc_; first | (go_simp; done) | (go_simp; rfl)) : wpList P ops Q (o :: rest) a W :=
 have _ := ho; have _ := hx
 ev_run hw (hrun hc) (by rw [hd]; exact h)
end
theorem run_addr {W : World} {A : Option Addr} {n c : Nat} {l : List S41} (h : RunC W (.slice A n c) l) (hl : 0 < l.length) : ∃ ad, A = some ad := by
 obtain ⟨A', c', e, _, hC⟩ := h
 injection e with e1
 obtain ⟨ad, _, _, h3, _⟩ := elem_C hC 0 hl
 exact ⟨ad, e1.trans h3⟩
theorem run_cells9 {W : World} {ad : Addr} {n c : Nat} {l : List S41} (h : RunC W (.slice (some ad) n c) l) (i : Nat) (hi : i < l.length) : ∃ v, ∀ j u, 0 < j → (opA (l.getD i z41) v).toList[j]? = some u → W.cell? ⟨(ad.add (i * 9)).block, (ad.add (i * 9)).off + j, none⟩ = some u := by
 obtain ⟨A', c', e, _, hC⟩ := h
 injection e with e1
 subst e1
 obtain ⟨ad', A5, c5, h3, h4, _⟩ := elem_C hC i hi
 obtain rfl := Option.some.inj h3
 refine ⟨.slice A5 (l.getD i z41).f3.length c5, fun j u hj hu => ?_⟩
 have := atL_get (h4 W (Below.refl _ _)) j u hu
 rw [Nat.zero_add] at this
 rw [← this]
 unfold Addr.add
 rw [if_neg (show ¬ j = 0 by omega)]
theorem run_f1 {W : World} {ad : Addr} {n c : Nat} {l : List S41} (h : RunC W (.slice (some ad) n c) l) (i : Nat) (hi : i < l.length) : W.cell? ⟨(ad.add (i * 9)).block, (ad.add (i * 9)).off + 3, none⟩ = some (.int .i64 (l.getD i z41).f1) := by
 obtain ⟨v, hv⟩ := run_cells9 h i hi
 exact hv 3 _ (by omega) rfl
theorem run_f1_0 {W : World} {ad : Addr} {n c : Nat} {l : List S41} (h : RunC W (.slice (some ad) n c) l) (hi : 0 < l.length) : W.cell? ⟨ad.block, ad.off + 3, none⟩ = some (.int .i64 (l.getD 0 z41).f1) := run_f1 h 0 hi
theorem run_f1_1 {W : World} {ad : Addr} {n c : Nat} {l : List S41} (h : RunC W (.slice (some ad) n c) l) (hi : 1 < l.length) : W.cell? ⟨ad.block, ad.off + 12, none⟩ = some (.int .i64 (l.getD 1 z41).f1) := run_f1 h 1 hi
set_option maxRecDepth 100000 in
set_option maxHeartbeats 4000000 in
theorem XformCrosses_any (l : List S100) (A : Option Addr) (c : Nat) (w : World) (hG : GW w) (hl : l.length ≤ 1048576) (h : k100.C w A l.length l) (hf : ∀ s ∈ l, fineStep s) : Calls Tryd.prog 14 #[.slice A l.length c] w (Yes w) := by
 have S := Aside0.mk (St.init w (F := fun _ => True) (fun _ _ => trivial))
 have HG := Aside0.mk hG; have HC := Aside0.mk h; have HL := Aside0.mk hl
 have HP : Aside0 (∀ s ∈ l, 5 ≤ s.f0 → s.f0 ≤ 5 → PlaysYes s) := ⟨fun s hs h1 h2 => plays_cross s (hf s hs) (by omega)⟩
 have HF : Aside0 (fineRun [cE] ∧ fineRun [cL, cM]) := ⟨⟨by decide, fun x hx => by
  rw [List.mem_singleton.1 hx]; exact fine_ins' _ _ _ _ (by decide)⟩, ⟨by decide, fun x hx => by
  simp only [List.mem_cons, List.not_mem_nil, or_false] at hx
  rcases hx with rfl | rfl <;> exact fine_ins' _ _ _ _ (by decide)⟩⟩
 clear hG h hl hf
 go_enter Tryd.func14, Tryd.ntmps14
 go_wp2_with (first | (go_at_call 25; (with_reducible refine (ins_any _ _ _ _ _).mono ?_); rintro e_ w7 ⟨rfl, hb⟩; replace S := Aside0.mk (S.out.step hb); clear hb) | (refine ev_lit S (opA cE (.slice none 0 0)) 1 ?_; clear S; intro _ _ S) | (refine ev_lit S (opA cL (.slice none 0 0) ++ opA cM (.slice none 0 0)) 2 ?_; clear S; intro _ _ S) | (go_at_call 35; (with_reducible refine (cross_any [cE] [cL, cM] _ _ _ (GW.below HG.out S.out.below) (runC_box1 (S.out.at_ 1 rfl) (opC_nil _ cE rfl)) (runC_box2 (S.out.at_ 0 rfl) (opC_nil _ cL rfl) (opC_nil _ cM rfl)) HF.out.1 HF.out.2).mono ?_); rintro e_ w7 ⟨v, v2, rfl, hR, hR2, hb⟩; rw [cross_awake] at hR hR2 ⊢; obtain ⟨Av, cv, rfl⟩ := hR.C.slice; obtain ⟨Aw, cw, rfl⟩ := hR2.C.slice; replace S := Aside0.mk (S.out.addRuns hb hR hR2); obtain ⟨av, rfl⟩ := run_addr hR.C (by decide); obtain ⟨aw, rfl⟩ := run_addr hR2.C (by decide); clear hb hR hR2) | (go_at_call 23; (with_reducible refine (num_any _ _).mono ?_); rintro e_ w7 ⟨rfl, hb⟩; replace S := Aside0.mk (S.out.step hb); clear hb) | (go_at_call 51; (with_reducible refine (played_any l 5 5 A c _ (GW.below HG.out S.out.below) HL.out (Kd.C_below HC.out S.out.below) HP.out).mono ?_); rintro e_ w7 ⟨rfl, hb⟩; replace S := Aside0.mk (S.out.step hb); clear hb) | ((with_reducible refine gate_load rfl ?_); first | refine ev_cell (run_f1_0 S.out.now.2.1 (by decide)) ?_ | refine ev_cell (run_f1_0 S.out.now.2.2 (by decide)) ?_ | refine ev_cell (run_f1_1 S.out.now.2.2 (by decide)) ?_))
 go_ret
 exact ⟨rfl, S.out.below⟩
end Go.Proofs.YtloccjkcmlkifaaDoor
end
