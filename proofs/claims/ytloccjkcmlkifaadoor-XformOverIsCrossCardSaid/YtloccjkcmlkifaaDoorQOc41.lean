/- XformOverIsCross_card, part 41. -/
import Derived.Test.YtloccjkcmlkifaaDoorQOc40
import Derived.Test.YtloccjkcmlkifaaDoorQOc39
import Derived.Test.YtloccjkcmlkifaaDoorQOc29

section
/- Cross, as both sides have it; the program's. -/
namespace Go.Proofs.YtloccjkcmlkifaaDoor
open Go.RowKit Go.Proofs.YtloccjkcmlkifaaDoor.PAll Go.Proofs.YtloccjkcmlkifaaDoorW.PrintWords Go.Proofs.YtloccjkcmlkifaaDoorW.PrintLast

def cin : List S41 → List S41 → S41 → (List S41 × S41) × Int
 | fd, [], l => ((fd, l), 0)
 | fd, f :: fr, l => if (incE l f true).2 ≠ 0 then (([], z41), (incE l f true).2) else if (incE f l false).2 ≠ 0 then (([], z41), (incE f l false).2) else cin (fd ++ [(incE f l false).1]) fr (incE l f true).1
def cout : List S41 → List S41 → List S41 → (List S41 × List S41) × Int
 | fs, ld, [] => ((fs, ld), 0)
 | fs, ld, l :: lr => if (cin [] fs l).2 ≠ 0 then (([], []), (cin [] fs l).2) else cout (cin [] fs l).1.1 (ld ++ [(cin [] fs l).1.2]) lr
def crossE (f l : List S41) : (List S41 × List S41) × Int := if ownsE f ≠ 0 then (([], []), ownsE f) else if ownsE l ≠ 0 then (([], []), ownsE l) else cout f [] l
def RetRuns (w : World) (r : (List S41 × List S41) × Int) : Ending → World → Prop := fun e w' => ∃ v u, e = .returned (.tuple #[v, u, .int .i64 r.2]) ∧ RunR w' w.heap.size v r.1.1 ∧ RunR w' w.heap.size u r.1.2 ∧ Below w.heap.size w w'
abbrev goodP (p : List OV) : Prop := ∀ x ∈ p, Good x.1
theorem goodP_put {pd pr : List OV} {x y : OV} (h : goodP (pd ++ x :: pr)) (hy : Good y.1) : goodP (pd ++ y :: pr) := fun z hz => by
 rcases List.mem_append.1 hz with hz | hz
 · exact h z (List.mem_append_left _ hz)
 · rcases List.mem_cons.1 hz with rfl | hz
   · exact hy
   · exact h z (List.mem_append_right _ (List.mem_cons_of_mem _ hz))
theorem goodP_of {l : List S41} {p : List OV} (hp : p.map (·.1) = l) (h : ∀ o ∈ l, Good o) : goodP p := fun x hx => h _ (by rw [← hp]; exact List.mem_map_of_mem hx)
theorem cnt_wrap {n : Nat} (h : n < 1048576) : wrap64 ((n : Int) + 1) = (n : Int) + 1 := wrap_id (by omega) (by omega)
theorem cnt_step {n : Nat} (h : n < 1048576) : Value.int .i64 (wrap64 ((n : Int) + 1)) = Value.int .i64 ((n + 1 : Nat) : Int) := by rw [cnt_wrap h]; rfl
theorem cnt_less {n m : Nat} (h : n < 1048576) (h2 : n < m) : m - (intOf (.int .i64 (wrap64 ((n : Int) + 1)))).toNat < m - (intOf (.int .i64 (n : Int))).toNat := by
 rw [cnt_wrap h]
 show m - ((n : Int) + 1).toNat < m - (n : Int).toNat
 omega
structure CrossO (w : World) (R : (List S41 × List S41) × Int) (Af Al : Option Addr) (cf cl nf nl : Nat) (bs : List Bx) (i j : Nat) (pf pd pr : List OV) (wr : World) : Prop where
 ne : j ≠ i
 f : RunAt bs i (.slice Af nf cf) pf
 l : RunAt bs j (.slice Al nl cl) (pd ++ pr)
 st : St w wr bs (fun W => OwnP w.heap.size pf W ∧ OwnP w.heap.size (pd ++ pr) W)
 gf : goodP pf
 gl : goodP (pd ++ pr)
 nf : pf.length = nf
 nl : (pd ++ pr).length = nl
 eq : R = cout (pf.map (·.1)) (pd.map (·.1)) (pr.map (·.1))
structure CrossI (w : World) (R : (List S41 × S41) × Int) (Af Al : Option Addr) (cf cl nf nl : Nat) (pd pr : List OV) (bs : List Bx) (i j : Nat) (fd fr : List OV) (x : OV) (wr : World) : Prop where
 ne : j ≠ i
 f : RunAt bs i (.slice Af nf cf) (fd ++ fr)
 l : RunAt bs j (.slice Al nl cl) (pd ++ x :: pr)
 st : St w wr bs (fun W => OwnP w.heap.size (fd ++ fr) W ∧ OwnP w.heap.size (pd ++ x :: pr) W)
 gf : goodP (fd ++ fr)
 gl : goodP (pd ++ x :: pr)
 nf : (fd ++ fr).length = nf
 nl : (pd ++ x :: pr).length = nl
 eq : R = cin (fd.map (·.1)) (fr.map (·.1)) x.1
set_option maxRecDepth 100000 in
set_option maxHeartbeats 8000000 in
theorem cross_any (f l : List S41) (vf vl : Value) (w : World) (hG : GW w) (hf : RunC w vf f) (hl : RunC w vl l) (ff : fineRun f) (fl : fineRun l) : Calls Tryd.prog 35 #[vf, vl] w (RetRuns w (crossE f l)) := by
 obtain ⟨A, c, rfl, h1, h2⟩ := hf
 obtain ⟨B, d, rfl, h3, h4⟩ := hl
 have S := Aside0.mk (St.init w (F := fun _ => True) (fun _ _ => trivial))
 have HA := Aside0.mk (runC_mk h1 h2); have HB := Aside0.mk (runC_mk h3 h4)
 have HG := Aside0.mk hG
 have HF := Aside0.mk (show fineRun f ∧ fineRun l from ⟨ff, fl⟩)
 clear h1 h2 h3 h4 hG ff fl
 by_cases c1 : ownsE f = 0
 case neg =>
  have HM := Aside0.mk (show crossE f l = (([], []), ownsE f) from if_pos c1)
  have c1' : (ownsE f != 0) = true := bne_iff_ne.mpr c1
  clear c1
  go_enter Tryd.func35, Tryd.ntmps35
  go_wp2_with ((go_at_call 55; (with_reducible refine (owns_any f _ _ (GW.below HG.out S.out.below) (HA.out.below S.out.below) HF.out.1.2 HF.out.1.1).mono ?_); rintro e_ w7 ⟨rfl, hb⟩; replace S := Aside0.mk (S.out.step hb); clear hb))
  rw [HM.out]
  go_ret3
  exact ⟨_, _, rfl, runR_nil _ _, runR_nil _ _, S.out.below⟩
 by_cases c2 : ownsE l = 0
 case neg =>
  have HM := Aside0.mk (show crossE f l = (([], []), ownsE l) by unfold crossE; rw [if_neg (fun h => h c1), if_pos c2])
  have c1' : (ownsE f != 0) = false := bne_eq_false_iff_eq.mpr c1
  have c2' : (ownsE l != 0) = true := bne_iff_ne.mpr c2
  clear c1 c2
  go_enter Tryd.func35, Tryd.ntmps35
  go_wp2_with (first | (go_at_call 55; (with_reducible refine (owns_any f _ _ (GW.below HG.out S.out.below) (HA.out.below S.out.below) HF.out.1.2 HF.out.1.1).mono ?_); rintro e_ w7 ⟨rfl, hb⟩; replace S := Aside0.mk (S.out.step hb); clear hb) | (go_at_call 55; (with_reducible refine (owns_any l _ _ (GW.below HG.out S.out.below) (HB.out.below S.out.below) HF.out.2.2 HF.out.2.1).mono ?_); rintro e_ w7 ⟨rfl, hb⟩; replace S := Aside0.mk (S.out.step hb); clear hb))
  rw [HM.out]
  go_ret3
  exact ⟨_, _, rfl, runR_nil _ _, runR_nil _ _, S.out.below⟩
 have HR := Aside0.mk (show crossE f l = cout f [] l by unfold crossE; rw [if_neg (fun h => h c1), if_neg (fun h => h c2)])
 have HGD := Aside0.mk (show (∀ o ∈ f, Good o) ∧ ∀ o ∈ l, Good o from ⟨owns_good c1 HF.out.1.2, owns_good c2 HF.out.2.2⟩)
 have c1' : (ownsE f != 0) = false := bne_eq_false_iff_eq.mpr c1
 have c2' : (ownsE l != 0) = false := bne_eq_false_iff_eq.mpr c2
 clear c1 c2
 go_enter Tryd.func35, Tryd.ntmps35
 go_wp2_with (first | (go_at_call 55; (with_reducible refine (owns_any f _ _ (GW.below HG.out S.out.below) (HA.out.below S.out.below) HF.out.1.2 HF.out.1.1).mono ?_); rintro e_ w7 ⟨rfl, hb⟩; replace S := Aside0.mk (S.out.step hb); clear hb) | (go_at_call 55; (with_reducible refine (owns_any l _ _ (GW.below HG.out S.out.below) (HB.out.below S.out.below) HF.out.2.2 HF.out.2.1).mono ?_); rintro e_ w7 ⟨rfl, hb⟩; replace S := Aside0.mk (S.out.step hb); clear hb) | (go_at_call 61; (with_reducible refine (clones_any f _ _ (HA.out.below S.out.below) HF.out.1.2 HF.out.1.1).mono ?_); rintro e_ w7 ⟨u, rfl, hR, hb⟩; obtain ⟨pf, bs, _, i, hpf, _, _, RF, S'⟩ := S.out.addRun hb hR (i := 0) (u := .slice none 0 0) (q := []) (.inl ⟨rfl, rfl⟩); obtain ⟨Af, cf, rfl⟩ := RF.slice; replace S := Aside0.mk S'; clear S' hb hR; replace RF := Aside0.mk RF; replace hpf := Aside0.mk hpf) | (go_at_call 61; (with_reducible refine (clones_any l _ _ (HB.out.below S.out.below) HF.out.2.2 HF.out.2.1).mono ?_); rintro e_ w7 ⟨u, rfl, hR, hb⟩; obtain ⟨pl, bs2, i2, j, hpl, hne, RF2, RL, S'⟩ := S.out.addRun hb hR RF.out; obtain ⟨Al, cl, rfl⟩ := RL.slice; replace S := Aside0.mk S'; clear S' hb hR RF; replace RF := Aside0.mk RF2; clear RF2; replace RL := Aside0.mk RL; replace hpl := Aside0.mk hpl; replace hne := Aside0.mk hne))
 have H0 := Aside0.mk (CrossO.mk (R := crossE f l) (pd := []) hne.out RF.out RL.out (S.out.weak fun _ h => ⟨h.1.2, h.2⟩) (goodP_of hpf.out HGD.out.1) (goodP_of hpl.out HGD.out.2) rfl rfl (by rw [HR.out, hpf.out, hpl.out]; rfl))
 have HN := Aside0.mk (show pf.length ≤ 1048576 ∧ pl.length ≤ 1048576 by
  have h1 := congrArg List.length hpf.out
  have h2 := congrArg List.length hpl.out
  rw [List.length_map] at h1 h2
  exact ⟨h1 ▸ HF.out.1.1, h2 ▸ HF.out.2.1⟩)
 obtain ⟨nf, hnf⟩ : ∃ n, n = pf.length := ⟨_, rfl⟩
 obtain ⟨nl, hnl⟩ : ∃ n, n = pl.length := ⟨_, rfl⟩
 rw [← hnf, ← hnl] at H0
 rw [← hnf, ← hnl] at HN
 rw [← hnf, ← hnl]
 clear S RF RL hpf hpl hne HR HGD hnf hnl
 go_loopw [4, 5, 27] (fun v4 v5 i' wr => ∃ (bs : List Bx) (i j : Nat) (pf pd pr : List OV), v4 = .slice Af nf cf ∧ v5 = .slice Al nl cl ∧ i' = .int .i64 (pd.length : Int) ∧ Aside0 (CrossO w (crossE f l) Af Al cf cl nf nl bs i j pf pd pr wr)) (fun _ _ i' _ => nl - (intOf i').toNat)
 case atStart => exact ⟨_, _, _, _, _, _, rfl, rfl, rfl, H0⟩
 case round =>
  obtain ⟨bs, i, j, pf, pd, pr, rfl, rfl, rfl, HO⟩ := hrel
  have S := Aside0.mk HO.out.st
  cases pr with
  | nil =>
   have hk : pd.length = nl := by have := HO.out.nl; simpa using this
   have hd : ¬ pd.length < nl := by omega
   have HE := Aside0.mk (show crossE f l = ((pf.map (·.1), pd.map (·.1)), 0) from HO.out.eq)
   clear hk
   go_wp2_with (fail)
   go_ret3
   rw [HE.out]
   have hl := HO.out.l
   rw [List.append_nil] at hl
   have h2 := S.out.now.2
   rw [List.append_nil] at h2
   exact ⟨_, _, rfl, HO.out.f.R S.out S.out.now.1 (by rw [HO.out.nf]; exact HN.out.1), hl.R S.out h2 (by have := HO.out.nl; rw [List.append_nil] at this; rw [this]; exact HN.out.2), S.out.below⟩
  | cons x pr =>
   have hlt : pd.length < nl := by have := HO.out.nl; simp at this; omega
   have HNL := Aside0.mk (show pd.length < 1048576 ∧ pd.length < nl from ⟨by have := HN.out.2; omega, hlt⟩)
   obtain ⟨RIN, hRIN⟩ : ∃ R, R = cin [] (pf.map (·.1)) x.1 := ⟨_, rfl⟩
   have HEQ := Aside0.mk (show crossE f l = if RIN.2 ≠ 0 then (([], []), RIN.2) else cout RIN.1.1 (pd.map (·.1) ++ [RIN.1.2]) (pr.map (·.1)) by rw [HO.out.eq, hRIN]; rfl)
   have HI := Aside0.mk (CrossI.mk (fd := []) HO.out.ne HO.out.f HO.out.l HO.out.st HO.out.gf HO.out.gl HO.out.nf HO.out.nl hRIN)
   clear HO hRIN
   go_wp2_with (fail)
   go_loopw [4, 5, 32] (fun v4 v5 i' wr => ∃ (bs : List Bx) (i j : Nat) (fd fr : List OV) (x : OV), v4 = .slice Af nf cf ∧ v5 = .slice Al nl cl ∧ i' = .int .i64 (fd.length : Int) ∧ Aside0 (CrossI w RIN Af Al cf cl nf nl pd pr bs i j fd fr x wr)) (fun _ _ i' _ => nf - (intOf i').toNat)
   case atStart => exact ⟨_, _, _, _, _, _, rfl, rfl, rfl, HI⟩
   case round =>
    obtain ⟨bs, i, j, fd, fr, x, rfl, rfl, rfl, HI⟩ := hrel
    have S := Aside0.mk HI.out.st
    cases fr with
    | nil =>
     have hk : fd.length = nf := by have := HI.out.nf; simpa using this
     have hd2 : ¬ fd.length < nf := by omega
     clear hk
     go_wp2_with (fail)
     go_roundw
     case rel =>
      refine ⟨bs, i, j, fd, pd ++ [x], pr, rfl, rfl, by rw [List.length_append, List.length_singleton]; exact cnt_step HNL.out.1, ⟨?_⟩⟩
      have h := HI.out
      have e := h.eq
      simp only [List.map_nil, cin] at e
      have a1 : pd ++ x :: pr = (pd ++ [x]) ++ pr := by simp
      have a2 : fd ++ [] = fd := List.append_nil fd
      exact ⟨h.ne, a2 ▸ h.f, a1 ▸ h.l, a1 ▸ a2 ▸ h.st, a2 ▸ h.gf, a1 ▸ h.gl, a2 ▸ h.nf, a1 ▸ h.nl, by rw [HEQ.out, e, if_neg (by simp)]; simp⟩
     case measure => exact cnt_less HNL.out.1 HNL.out.2
    | cons y fr =>
     obtain ⟨o, vo⟩ := x
     obtain ⟨q, vq⟩ := y
     have hlt : fd.length < nf := by have := HI.out.nf; simp at this; omega
     have hlk : (fd.length : Int) < (nf : Int) := by omega
     have hlk2 : (pd.length : Int) < (nl : Int) := by have := HNL.out.2; omega
     have hz1 : (0 : Int) ≤ (fd.length : Int) := by omega
     have hz2 : (0 : Int) ≤ (pd.length : Int) := by omega
     obtain ⟨Ao, co, rfl⟩ : ∃ A c, vo = .slice A o.f3.length c := (S.out.now.2 (o, vo) (by simp)).slice
     obtain ⟨Aq, cq, rfl⟩ : ∃ A c, vq = .slice A q.f3.length c := (S.out.now.1 (q, vq) (by simp)).slice
     have HM := Aside0.mk (show (o, Value.slice Ao o.f3.length co) ∈ pd ++ (o, Value.slice Ao o.f3.length co) :: pr ∧ (q, Value.slice Aq q.f3.length cq) ∈ fd ++ (q, Value.slice Aq q.f3.length cq) :: fr by simp)
     have HGO := Aside0.mk (show Good o ∧ Good q from ⟨HI.out.gl _ HM.out.1, HI.out.gf _ HM.out.2⟩)
     have HNF := Aside0.mk (show fd.length < 1048576 ∧ fd.length < nf from ⟨by have := HN.out.1; omega, hlt⟩)
     have RF := Aside0.mk HI.out.f
     have RL := Aside0.mk HI.out.l
     have HNE := Aside0.mk (show i + 1 + 1 ≠ j + 1 + 1 by have := HI.out.ne; omega)
     obtain ⟨ga, _, rfl, hq1⟩ := RF.out.at_
     obtain ⟨gb, _, rfl, hq2⟩ := RL.out.at_
     clear hq1 hq2
     obtain ⟨ad, had⟩ : ∃ ad : Addr, ad = ⟨ga, 0, none⟩ := ⟨_, rfl⟩
     obtain ⟨ae, hae⟩ : ∃ ad : Addr, ad = ⟨gb, 0, none⟩ := ⟨_, rfl⟩
     rw [← had] at HI RF ⊢
     rw [← hae] at HI RL ⊢
     clear had hae
     by_cases z1 : (incE o q true).2 = 0
     case neg =>
      have z1' : ((incE o q true).2 != 0) = true := bne_iff_ne.mpr z1
      have HE := Aside0.mk (show crossE f l = (([], []), (incE o q true).2) by
       have e := HI.out.eq
       simp only [List.map_cons, cin] at e
       rw [if_pos z1] at e
       rw [HEQ.out, e, if_pos z1])
      clear z1
      go_wp2_with (fail)
      (refine rg_start (n := 12) (fun W => ∃ top : List Bx, St w W (top ++ bs) _) [] ⟨[], S.out⟩ (fun _ ⟨t, h⟩ => ⟨t, h.drew⟩) ?_; clear S; rintro _ ⟨top, S⟩; refine pu_ 0 ?_; refine pu_ 1 ?_; refine pu_ 2 ?_; refine le_ 3 (opA o (.slice Ao o.f3.length co)) ⟨top, S⟩ (fun _ ⟨t, h⟩ => (h.drop (List.sublist_append_right t bs)).atRun RL.out) ?_; refine pu_ 4 ?_; refine pu_ 5 ?_; refine pu_ 6 ?_; refine le_ 7 (opA q (.slice Aq q.f3.length cq)) ⟨top, S⟩ (fun _ ⟨t, h⟩ => (h.drop (List.sublist_append_right t bs)).atRun RF.out) ?_; replace S := S.drop (List.sublist_append_right top bs); clear top)
      refine re_ (rc_ 8 ?p8a (rc_ 9 ?p9a AllReadyL.nil))
      case' p8a =>
       intro K hK; refine kn_ 41 zA S ?_; intro _ _ S'; refine hK.out _ _ ⟨[_], S'⟩ (fun _ => ?_); clear hK S; have S := S'; clear S'; refine nr_ ?_
       refine re_ (rc_ 9 ?_ AllReadyL.nil)
       intro K hK; refine kn_ 41 zA S ?_; intro _ _ S'; refine hK.out _ _ ⟨[_, _], S'⟩ (fun _ => ?_); clear hK S; have S := S'; clear S'; refine nr_ ?_
       refine re_ (rc_ 10 ?_ AllReadyL.nil); intro K hK; refine ks_ 1 S ?_; intro _ S'; refine hK.out _ _ ⟨[_, _], S'⟩ (fun _ => ?_); clear hK S; have S := S'; clear S'
       refine re_ (rc_ 11 ?_ AllReadyL.nil); intro K hK; refine ks_ 0 S ?_; intro _ S'; refine hK.out _ _ ⟨[_, _], S'⟩ (fun _ => ?_); clear hK S; have S := S'; clear S'
      case' p9a =>
       intro K hK; refine kn_ 41 zA S ?_; intro _ _ S'; refine hK.out _ _ ⟨[_], S'⟩ (fun _ => ?_); clear hK S; have S := S'; clear S'; refine nr_ ?_
       refine re_ (rc_ 8 ?_ AllReadyL.nil)
       intro K hK; refine kn_ 41 zA S ?_; intro _ _ S'; refine hK.out _ _ ⟨[_, _], S'⟩ (fun _ => ?_); clear hK S; have S := S'; clear S'; refine nr_ ?_
       refine re_ (rc_ 10 ?_ AllReadyL.nil); intro K hK; refine ks_ 0 S ?_; intro _ S'; refine hK.out _ _ ⟨[_, _], S'⟩ (fun _ => ?_); clear hK S; have S := S'; clear S'
       refine re_ (rc_ 11 ?_ AllReadyL.nil); intro K hK; refine ks_ 1 S ?_; intro _ S'; refine hK.out _ _ ⟨[_, _], S'⟩ (fun _ => ?_); clear hK S; have S := S'; clear S'
      all_goals
       refine done_ (by kernel_rfl) ?_
       replace S := Aside0.mk S
       go_wp2_with (first | ((with_reducible refine gate_load rfl ?_); refine ev_load S ?_) | (go_at_call 56; (with_reducible refine (incE_prog o q true _ _ _ (GW.below HG.out S.out.below) (S.out.now.2 _ HM.out.1).C (S.out.now.1 _ HM.out.2).C HGO.out.1 HGO.out.2).mono ?_); rintro e_ w7 ⟨v, rfl, hR, hb⟩; obtain ⟨Ai, ci, rfl⟩ := hR.slice; replace S := Aside0.mk (S.out.addOp hb hR); clear hb hR) | ((with_reducible refine gate_st rfl ?_); refine ev_put S (Aside0.mk ((RL.out.cons _).cons _)) ((incE o q true).1, .slice Ai (incE o q true).1.f3.length ci) ?_; clear S; intro _ B S RL2 hoth))
       rw [HE.out]
       go_ret3
       exact ⟨_, _, rfl, runR_nil _ _, runR_nil _ _, S.out.below⟩
     by_cases z2 : (incE q o false).2 = 0
     case neg =>
      have z1' : ((incE o q true).2 != 0) = false := bne_eq_false_iff_eq.mpr z1
      have z2' : ((incE q o false).2 != 0) = true := bne_iff_ne.mpr z2
      have HE := Aside0.mk (show crossE f l = (([], []), (incE q o false).2) by
       have e := HI.out.eq
       simp only [List.map_cons, cin] at e
       rw [if_neg (fun h => h z1), if_pos z2] at e
       rw [HEQ.out, e, if_pos z2])
      clear z1 z2
      go_wp2_with (fail)
      (refine rg_start (n := 12) (fun W => ∃ top : List Bx, St w W (top ++ bs) _) [] ⟨[], S.out⟩ (fun _ ⟨t, h⟩ => ⟨t, h.drew⟩) ?_; clear S; rintro _ ⟨top, S⟩; refine pu_ 0 ?_; refine pu_ 1 ?_; refine pu_ 2 ?_; refine le_ 3 (opA o (.slice Ao o.f3.length co)) ⟨top, S⟩ (fun _ ⟨t, h⟩ => (h.drop (List.sublist_append_right t bs)).atRun RL.out) ?_; refine pu_ 4 ?_; refine pu_ 5 ?_; refine pu_ 6 ?_; refine le_ 7 (opA q (.slice Aq q.f3.length cq)) ⟨top, S⟩ (fun _ ⟨t, h⟩ => (h.drop (List.sublist_append_right t bs)).atRun RF.out) ?_; replace S := S.drop (List.sublist_append_right top bs); clear top)
      refine re_ (rc_ 8 ?p8b (rc_ 9 ?p9b AllReadyL.nil))
      case' p8b =>
       intro K hK; refine kn_ 41 zA S ?_; intro _ _ S'; refine hK.out _ _ ⟨[_], S'⟩ (fun _ => ?_); clear hK S; have S := S'; clear S'; refine nr_ ?_
       refine re_ (rc_ 9 ?_ AllReadyL.nil)
       intro K hK; refine kn_ 41 zA S ?_; intro _ _ S'; refine hK.out _ _ ⟨[_, _], S'⟩ (fun _ => ?_); clear hK S; have S := S'; clear S'; refine nr_ ?_
       refine re_ (rc_ 10 ?_ AllReadyL.nil); intro K hK; refine ks_ 1 S ?_; intro _ S'; refine hK.out _ _ ⟨[_, _], S'⟩ (fun _ => ?_); clear hK S; have S := S'; clear S'
       refine re_ (rc_ 11 ?_ AllReadyL.nil); intro K hK; refine ks_ 0 S ?_; intro _ S'; refine hK.out _ _ ⟨[_, _], S'⟩ (fun _ => ?_); clear hK S; have S := S'; clear S'
      case' p9b =>
       intro K hK; refine kn_ 41 zA S ?_; intro _ _ S'; refine hK.out _ _ ⟨[_], S'⟩ (fun _ => ?_); clear hK S; have S := S'; clear S'; refine nr_ ?_
       refine re_ (rc_ 8 ?_ AllReadyL.nil)
       intro K hK; refine kn_ 41 zA S ?_; intro _ _ S'; refine hK.out _ _ ⟨[_, _], S'⟩ (fun _ => ?_); clear hK S; have S := S'; clear S'; refine nr_ ?_
       refine re_ (rc_ 10 ?_ AllReadyL.nil); intro K hK; refine ks_ 0 S ?_; intro _ S'; refine hK.out _ _ ⟨[_, _], S'⟩ (fun _ => ?_); clear hK S; have S := S'; clear S'
       refine re_ (rc_ 11 ?_ AllReadyL.nil); intro K hK; refine ks_ 1 S ?_; intro _ S'; refine hK.out _ _ ⟨[_, _], S'⟩ (fun _ => ?_); clear hK S; have S := S'; clear S'
      all_goals
       refine done_ (by kernel_rfl) ?_
       replace S := Aside0.mk S
       go_wp2_with (first | ((with_reducible refine gate_load rfl ?_); refine ev_load S ?_) | (go_at_call 56; (with_reducible refine (incE_prog o q true _ _ _ (GW.below HG.out S.out.below) (S.out.now.2 _ HM.out.1).C (S.out.now.1 _ HM.out.2).C HGO.out.1 HGO.out.2).mono ?_); rintro e_ w7 ⟨v, rfl, hR, hb⟩; obtain ⟨Ai, ci, rfl⟩ := hR.slice; replace S := Aside0.mk (S.out.addOp hb hR); clear hb hR) | ((with_reducible refine gate_st rfl ?_); refine ev_put S (Aside0.mk ((RL.out.cons _).cons _)) ((incE o q true).1, .slice Ai (incE o q true).1.f3.length ci) ?_; clear S; intro _ B S RL2 hoth) | (go_at_call 56; (with_reducible refine (incE_prog q o false _ _ _ (GW.below HG.out S.out.below) (S.out.now.1.1 _ HM.out.2).C (S.out.now.1.2 _ HM.out.1).C HGO.out.2 HGO.out.1).mono ?_); rintro e_ w7 ⟨v, rfl, hR, hb⟩; obtain ⟨Aj, cj, rfl⟩ := hR.slice; replace S := Aside0.mk (S.out.addOp hb hR); clear hb hR) | ((with_reducible refine gate_st rfl ?_); refine ev_put S (Aside0.mk (hoth _ _ _ HNE.out ((RF.out.cons _).cons _))) ((incE q o false).1, .slice Aj (incE q o false).1.f3.length cj) ?_; clear S; intro _ B2 S RF2 hoth2))
       rw [HE.out]
       go_ret3
       exact ⟨_, _, rfl, runR_nil _ _, runR_nil _ _, S.out.below⟩
     have z1' : ((incE o q true).2 != 0) = false := bne_eq_false_iff_eq.mpr z1
     have z2' : ((incE q o false).2 != 0) = false := bne_eq_false_iff_eq.mpr z2
     have HE := Aside0.mk (show RIN = cin ((fd ++ [((incE q o false).1, Value.slice none 0 0)]).map (·.1)) (fr.map (·.1)) (incE o q true).1 by
      have e := HI.out.eq
      simp only [List.map_cons, cin] at e
      rw [if_neg (fun h => h z1), if_neg (fun h => h z2)] at e
      rw [e]; simp)
     have HGI := Aside0.mk (show Good (incE o q true).1 ∧ Good (incE q o false).1 from ⟨inc_good HGO.out.1 HGO.out.2 z1, inc_good HGO.out.2 HGO.out.1 z2⟩)
     clear z1 z2
     go_wp2_with (fail)
     (refine rg_start (n := 12) (fun W => ∃ top : List Bx, St w W (top ++ bs) _) [] ⟨[], S.out⟩ (fun _ ⟨t, h⟩ => ⟨t, h.drew⟩) ?_; clear S; rintro _ ⟨top, S⟩; refine pu_ 0 ?_; refine pu_ 1 ?_; refine pu_ 2 ?_; refine le_ 3 (opA o (.slice Ao o.f3.length co)) ⟨top, S⟩ (fun _ ⟨t, h⟩ => (h.drop (List.sublist_append_right t bs)).atRun RL.out) ?_; refine pu_ 4 ?_; refine pu_ 5 ?_; refine pu_ 6 ?_; refine le_ 7 (opA q (.slice Aq q.f3.length cq)) ⟨top, S⟩ (fun _ ⟨t, h⟩ => (h.drop (List.sublist_append_right t bs)).atRun RF.out) ?_; replace S := S.drop (List.sublist_append_right top bs); clear top)
     refine re_ (rc_ 8 ?p8c (rc_ 9 ?p9c AllReadyL.nil))
     case' p8c =>
      intro K hK; refine kn_ 41 zA S ?_; intro _ _ S'; refine hK.out _ _ ⟨[_], S'⟩ (fun _ => ?_); clear hK S; have S := S'; clear S'; refine nr_ ?_
      refine re_ (rc_ 9 ?_ AllReadyL.nil)
      intro K hK; refine kn_ 41 zA S ?_; intro _ _ S'; refine hK.out _ _ ⟨[_, _], S'⟩ (fun _ => ?_); clear hK S; have S := S'; clear S'; refine nr_ ?_
      refine re_ (rc_ 10 ?_ AllReadyL.nil); intro K hK; refine ks_ 1 S ?_; intro _ S'; refine hK.out _ _ ⟨[_, _], S'⟩ (fun _ => ?_); clear hK S; have S := S'; clear S'
      refine re_ (rc_ 11 ?_ AllReadyL.nil); intro K hK; refine ks_ 0 S ?_; intro _ S'; refine hK.out _ _ ⟨[_, _], S'⟩ (fun _ => ?_); clear hK S; have S := S'; clear S'
     case' p9c =>
      intro K hK; refine kn_ 41 zA S ?_; intro _ _ S'; refine hK.out _ _ ⟨[_], S'⟩ (fun _ => ?_); clear hK S; have S := S'; clear S'; refine nr_ ?_
      refine re_ (rc_ 8 ?_ AllReadyL.nil)
      intro K hK; refine kn_ 41 zA S ?_; intro _ _ S'; refine hK.out _ _ ⟨[_, _], S'⟩ (fun _ => ?_); clear hK S; have S := S'; clear S'; refine nr_ ?_
      refine re_ (rc_ 10 ?_ AllReadyL.nil); intro K hK; refine ks_ 0 S ?_; intro _ S'; refine hK.out _ _ ⟨[_, _], S'⟩ (fun _ => ?_); clear hK S; have S := S'; clear S'
      refine re_ (rc_ 11 ?_ AllReadyL.nil); intro K hK; refine ks_ 1 S ?_; intro _ S'; refine hK.out _ _ ⟨[_, _], S'⟩ (fun _ => ?_); clear hK S; have S := S'; clear S'
     all_goals
      refine done_ (by kernel_rfl) ?_
      replace S := Aside0.mk S
      go_wp2_with (first | ((with_reducible refine gate_load rfl ?_); refine ev_load S ?_) | (go_at_call 56; (with_reducible refine (incE_prog o q true _ _ _ (GW.below HG.out S.out.below) (S.out.now.2 _ HM.out.1).C (S.out.now.1 _ HM.out.2).C HGO.out.1 HGO.out.2).mono ?_); rintro e_ w7 ⟨v, rfl, hR, hb⟩; obtain ⟨Ai, ci, rfl⟩ := hR.slice; replace S := Aside0.mk (S.out.addOp hb hR); clear hb hR) | ((with_reducible refine gate_st rfl ?_); refine ev_put S (Aside0.mk ((RL.out.cons _).cons _)) ((incE o q true).1, .slice Ai (incE o q true).1.f3.length ci) ?_; clear S; intro _ B S RL2 hoth) | (go_at_call 56; (with_reducible refine (incE_prog q o false _ _ _ (GW.below HG.out S.out.below) (S.out.now.1.1 _ HM.out.2).C (S.out.now.1.2 _ HM.out.1).C HGO.out.2 HGO.out.1).mono ?_); rintro e_ w7 ⟨v, rfl, hR, hb⟩; obtain ⟨Aj, cj, rfl⟩ := hR.slice; replace S := Aside0.mk (S.out.addOp hb hR); clear hb hR) | ((with_reducible refine gate_st rfl ?_); refine ev_put S (Aside0.mk (hoth _ _ _ HNE.out ((RF.out.cons _).cons _))) ((incE q o false).1, .slice Aj (incE q o false).1.f3.length cj) ?_; clear S; intro _ B2 S RF2 hoth2))
      go_roundw
      case rel =>
       refine ⟨(bs.set j B).set i B2, i, j, fd ++ [((incE q o false).1, .slice Aj (incE q o false).1.f3.length cj)], fr, ((incE o q true).1, .slice Ai (incE o q true).1.f3.length ci), rfl, rfl, by rw [List.length_append, List.length_singleton]; exact cnt_step HNF.out.1, ⟨?_⟩⟩
       have h := HI.out
       have a1 : ∀ z : OV, (fd ++ [z]) ++ fr = fd ++ z :: fr := by simp
       have hnf := h.nf
       have hnl := h.nl
       refine ⟨h.ne, ?_, ?_, ?_, ?_, goodP_put h.gl HGI.out.1, ?_, ?_, by rw [HE.out]; simp⟩
       · rw [a1]; exact RF2.out.tail.tail
       · exact (hoth2 _ _ _ (Ne.symm HNE.out) RL2.out).tail.tail
       · rw [a1]; exact (S.out.drop (bs' := (bs.set j B).set i B2) ((List.sublist_cons_self _ _).trans (List.sublist_cons_self _ _))).weak fun _ h => ⟨ownP_put h.1.1.1 h.2, ownP_put h.1.1.2 h.1.2⟩
       · rw [a1]; exact goodP_put h.gf HGI.out.2
       · rw [a1]; simpa using hnf
       · simpa using hnl
      case measure => exact cnt_less HNF.out.1 HNF.out.2
end Go.Proofs.YtloccjkcmlkifaaDoor
end

section
/- Operations of small rows are carried over one another without a fault. -/
namespace Go.Proofs.YtloccjkcmlkifaaDoor
open Go.RowKit Go.Proofs.YtloccjkcmlkifaaDoor.PAll Go.Proofs.YtloccjkcmlkifaaDoorW.PrintWords

structure Sm (o : S41) (n : Int) : Prop where
 good : Good o
 ins : o.f0.f1 = 1 → o.f1 ≤ n ∧ wid o ≤ 5
 cov : o.f0.f1 = 2 ∨ o.f0.f1 = 3 → lastHi o.f3 ≤ n
theorem Sm.mono {o : S41} {n m : Int} (h : Sm o n) (hm : n ≤ m) : Sm o m := ⟨h.good, fun k => ⟨by have := (h.ins k).1; omega, (h.ins k).2⟩, fun k => by have := h.cov k; omega⟩
theorem MadeOK.sm {o : S41} {c m : Int} {n : Nat} (h : MadeOK o c m n) (hn : n ≤ 1000) (hc : 1 ≤ c ∧ c ≤ 2) (hm : 1 ≤ m ∧ m ≤ 1024) : Sm o (n : Int) :=
 ⟨made_good h hn hc hm, fun k => ⟨(h.stands.ins k).2.1, h.stands.wid.2⟩, fun k => (h.stands.cov k).2.2⟩
theorem MadeRun.sm {ci : Int} {n0 : Nat} {a : List S41} {n : Nat} (h : MadeRun ci n0 a n) (hc : 1 ≤ ci ∧ ci ≤ 2) : n ≤ 1000 → a.length ≤ 1000 → ∀ o ∈ a, Sm o (n : Int) ∧ o.f0.f0.f0 = ci := by
 induction h with
 | nil => intro _ _ o ho; cases ho
 | snoc hr ho ih =>
  intro hb hl x hx
  rw [List.length_append, List.length_singleton] at hl
  rcases List.mem_append.1 hx with hx | hx
  · obtain ⟨h1, h2⟩ := ih (by omega) (by omega) x hx
    exact ⟨h1.mono (by omega), h2⟩
  · rw [List.mem_singleton.1 hx]; exact ⟨(ho.sm (by omega) hc (by omega)).mono (by omega), by rw [ho.id]⟩
theorem inc_small {a b : S41} {e : Bool} {n : Int} (ha : Sm a n) (hb : Sm b n) (hn : n ≤ 3000) (hid : a.f0.f0.f0 ≠ b.f0.f0.f0) : (incE a b e).2 = 0 ∧ Sm (incE a b e).1 (n + 5) ∧ (incE a b e).1.f0 = a.f0 := by
 have ga := ha.good
 have gb := hb.good
 have hc : ¬ clashB a b = true := by
  unfold clashB
  intro h
  exact hid (of_decide_eq_true h).1
 suffices h : (incE a b e).2 = 0 ∧ (incE a b e).1.f0 = a.f0 ∧ ((incE a b e).1.f0.f1 = 1 → (incE a b e).1.f1 ≤ n + 5 ∧ wid (incE a b e).1 ≤ 5) ∧ ((incE a b e).1.f0.f1 = 2 ∨ (incE a b e).1.f0.f1 = 3 → lastHi (incE a b e).1.f3 ≤ n + 5) from
  ⟨h.1, ⟨inc_good ga gb h.1, h.2.2.1, h.2.2.2⟩, h.2.1⟩
 have self : (a, (0 : Int)).2 = 0 ∧ (a, (0 : Int)).1.f0 = a.f0 ∧ ((a, (0 : Int)).1.f0.f1 = 1 → (a, (0 : Int)).1.f1 ≤ n + 5 ∧ wid (a, (0 : Int)).1 ≤ 5) ∧ ((a, (0 : Int)).1.f0.f1 = 2 ∨ (a, (0 : Int)).1.f0.f1 = 3 → lastHi (a, (0 : Int)).1.f3 ≤ n + 5) :=
  ⟨rfl, rfl, fun k => by have := ha.ins k; exact ⟨by show a.f1 ≤ n + 5; omega, this.2⟩, fun k => by have := ha.cov k; show lastHi a.f3 ≤ n + 5; omega⟩
 unfold incE incP
 rw [if_neg hc]
 by_cases kb : b.f0.f1 = 1
 case neg => rw [if_pos kb]; exact self
 rw [if_neg (fun q => q kb)]
 have hwb := hb.ins kb
 have hb1 := gb.wid1 kb
 by_cases ka : a.f0.f1 = 1
 · rw [if_pos ka]
   have hwa := ha.ins ka
   have ha1 := ga.wid1 ka
   by_cases c : b.f1 < a.f1 ∨ b.f1 = a.f1 ∧ e = true
   · rw [if_pos c]
     unfold moveE
     rw [if_neg (by omega)]
     have hw : wid (⟨a.f0, a.f1 + wid b, a.f2, [], a.f4, a.f5⟩ : S41) = wid a := rfl
     exact ⟨rfl, rfl, fun _ => ⟨by show a.f1 + wid b ≤ n + 5; omega, by rw [hw]; exact hwa.2⟩, fun k => absurd (show a.f0.f1 = 2 ∨ a.f0.f1 = 3 from k) (by omega)⟩
   · rw [if_neg c]; exact self
 · rw [if_neg ka]
   by_cases kc : a.f0.f1 = 2 ∨ a.f0.f1 = 3
   · rw [if_pos kc]
     have hl := ha.cov kc
     obtain ⟨_, hN⟩ := rng_ok (ga.rng kc)
     have hl0 : 0 < a.f3.length := Nat.pos_of_ne_zero ((own_ok ga.own).2.2.2.2.2.1 kc).1
     have hlen := nrm_len hN (by omega) hl0
     have hth := thr_len b.f1 (wid b) a.f3
     have e1 : ¬ (0 < a.f3.length ∧ b.f1 < lastHi a.f3 ∧ 1048576 < lastHi a.f3 + wid b) := by omega
     have e2 : ¬ 32768 < (thrS b.f1 (wid b) a.f3).length := by omega
     have et : thrE a.f3 b.f1 (wid b) = (thrS b.f1 (wid b) a.f3, 0) := by
      unfold thrE bnd
      rw [if_neg e1, if_neg e2]
     rw [et]
     unfold rangedE
     rw [if_pos rfl]
     refine ⟨rfl, rfl, fun k => absurd (show a.f0.f1 = 1 from k) ka, fun _ => ?_⟩
     show lastHi (thrS b.f1 (wid b) a.f3) ≤ n + 5
     rw [thr_last _ _ hl0]
     unfold sh
     split <;> omega
   · rw [if_neg kc]; exact self
def foldO (e : Bool) (o : S41) (a : List S41) : S41 := a.foldl (fun s x => (incE s x e).1) o
theorem foldO_small (e : Bool) : ∀ (a : List S41) (o : S41) (m : Int), 1000 ≤ m → Sm o m → (∀ x ∈ a, Sm x 1000) → (∀ x ∈ a, o.f0.f0.f0 ≠ x.f0.f0.f0) → m + 5 * (a.length : Int) ≤ 3000 →
 a.foldl (overF e) (o, 0) = (foldO e o a, 0) ∧ Sm (foldO e o a) 3000 ∧ (foldO e o a).f0 = o.f0 := by
 intro a
 induction a with
 | nil => intro o m _ ho _ _ h5; exact ⟨rfl, ho.mono (by simpa using h5), rfl⟩
 | cons x t ih =>
  intro o m hm ho hx hid h5
  have hx0 := (hx x (List.mem_cons_self ..)).mono hm
  have hi0 := hid x (List.mem_cons_self ..)
  rw [List.length_cons] at h5
  have h6 : m + 5 ≤ 3000 := by omega
  obtain ⟨q1, q2, q3⟩ := inc_small (e := e) ho hx0 (by omega) hi0
  obtain ⟨r1, r2, r3⟩ := ih (incE o x e).1 (m + 5) (by omega) q2 (fun y hy => hx y (List.mem_cons_of_mem _ hy)) (fun y hy => by rw [q3]; exact hid y (List.mem_cons_of_mem _ hy)) (by omega)
  have hs : overF e (o, 0) x = ((incE o x e).1, 0) := by
   have : overF e (o, 0) x = incE o x e := if_pos rfl
   rw [this]
   exact Prod.ext rfl q1
  refine ⟨?_, r2, r3.trans q3⟩
  rw [List.foldl_cons, hs, r1]
  rfl
theorem owns_zero : ∀ {l : List S41}, (∀ o ∈ l, ownE o = 0) → ownsE l = 0
 | [], _ => rfl
 | o :: t, h => by
  unfold ownsE
  rw [if_pos (h o (List.mem_cons_self ..))]
  exact owns_zero fun x hx => h x (List.mem_cons_of_mem _ hx)
theorem over_small {e : Bool} {a : List S41} {o : S41} (ho : Sm o 1000) (hx : ∀ x ∈ a, Sm x 1000) (hid : ∀ x ∈ a, o.f0.f0.f0 ≠ x.f0.f0.f0) (hl : a.length ≤ 100) : overE o e a = (foldO e o a, 0) ∧ Sm (foldO e o a) 3000 := by
 obtain ⟨q1, q2, _⟩ := foldO_small e a o 1000 (Int.le_refl _) ho hx hid (by omega)
 refine ⟨?_, q2⟩
 unfold overE
 rw [if_neg (fun h => h ho.good.own), if_neg (fun h => h (owns_zero fun x h => (hx x h).good.own)), q1, if_pos rfl]
theorem cin_small : ∀ (fr fd : List S41) (l : S41) (m : Int), 1000 ≤ m → Sm l m → (∀ x ∈ fr, Sm x 1000) → (∀ x ∈ fr, l.f0.f0.f0 ≠ x.f0.f0.f0) → m + 5 * (fr.length : Int) ≤ 3000 →
 ∃ fs, cin fd fr l = ((fd ++ fs, foldO true l fr), 0) ∧ fs.length = fr.length := by
 intro fr
 induction fr with
 | nil => intro fd l m _ _ _ _ _; exact ⟨[], by rw [List.append_nil]; rfl, rfl⟩
 | cons x t ih =>
  intro fd l m hm hl hx hid h5
  have hx0 := (hx x (List.mem_cons_self ..)).mono hm
  have hi0 := hid x (List.mem_cons_self ..)
  rw [List.length_cons] at h5
  obtain ⟨q1, q2, q3⟩ := inc_small (e := true) hl hx0 (by omega) hi0
  obtain ⟨p1, _, _⟩ := inc_small (e := false) hx0 hl (by omega) (fun h => hi0 h.symm)
  obtain ⟨fs, r1, r2⟩ := ih (fd ++ [(incE x l false).1]) (incE l x true).1 (m + 5) (by omega) q2 (fun y hy => hx y (List.mem_cons_of_mem _ hy)) (fun y hy => by rw [q3]; exact hid y (List.mem_cons_of_mem _ hy)) (by omega)
  refine ⟨(incE x l false).1 :: fs, ?_, by rw [List.length_cons, List.length_cons, r2]⟩
  rw [cin, if_neg (fun h => h q1), if_neg (fun h => h p1), r1, List.append_assoc]
  rfl
theorem cross_one {a : List S41} {o : S41} (ho : Sm o 1000) (hx : ∀ x ∈ a, Sm x 1000) (hid : ∀ x ∈ a, o.f0.f0.f0 ≠ x.f0.f0.f0) (hl : a.length ≤ 100) : ∃ fs, crossE a [o] = ((fs, [foldO true o a]), 0) := by
 obtain ⟨fs, r1, _⟩ := cin_small a [] o 1000 (Int.le_refl _) ho hx hid (by omega)
 refine ⟨fs, ?_⟩
 unfold crossE
 rw [if_neg (fun h => h (owns_zero fun x h => (hx x h).good.own)), if_neg (fun h => h (owns_zero fun x h => by rw [List.mem_singleton.1 h]; exact ho.good.own)), cout, r1, if_neg (fun h => h rfl), cout]
 rfl
theorem cout_one : ∀ (a ld : List S41) (o : S41) (m : Int), 1000 ≤ m → Sm o m → (∀ x ∈ a, Sm x 1000) → (∀ x ∈ a, o.f0.f0.f0 ≠ x.f0.f0.f0) → m + 5 * (a.length : Int) ≤ 3000 →
 ∃ ls, cout [o] ld a = (([foldO false o a], ls), 0) := by
 intro a
 induction a with
 | nil => intro ld o m _ _ _ _ _; exact ⟨ld, rfl⟩
 | cons y t ih =>
  intro ld o m hm ho hx hid h5
  have hx0 := (hx y (List.mem_cons_self ..)).mono hm
  have hi0 := hid y (List.mem_cons_self ..)
  rw [List.length_cons] at h5
  obtain ⟨q1, _, _⟩ := inc_small (e := true) hx0 ho (by omega) (fun h => hi0 h.symm)
  obtain ⟨p1, p2, p3⟩ := inc_small (e := false) ho hx0 (by omega) hi0
  have hc : cin [] [o] y = (([(incE o y false).1], (incE y o true).1), 0) := by
   rw [cin, if_neg (fun h => h q1), if_neg (fun h => h p1), cin]
   rfl
  obtain ⟨ls, r1⟩ := ih (ld ++ [(incE y o true).1]) (incE o y false).1 (m + 5) (by omega) p2 (fun z hz => hx z (List.mem_cons_of_mem _ hz)) (fun z hz => by rw [p3]; exact hid z (List.mem_cons_of_mem _ hz)) (by omega)
  refine ⟨ls, ?_⟩
  rw [cout, hc, if_neg (fun h => h rfl), r1]
  rfl
theorem cross_one' {a : List S41} {o : S41} (ho : Sm o 1000) (hx : ∀ x ∈ a, Sm x 1000) (hid : ∀ x ∈ a, o.f0.f0.f0 ≠ x.f0.f0.f0) (hl : a.length ≤ 100) : ∃ ls, crossE [o] a = (([foldO false o a], ls), 0) := by
 obtain ⟨ls, r1⟩ := cout_one a [] o 1000 (Int.le_refl _) ho hx hid (by omega)
 refine ⟨ls, ?_⟩
 unfold crossE
 rw [if_neg (fun h => h (owns_zero fun x h => by rw [List.mem_singleton.1 h]; exact ho.good.own)), if_neg (fun h => h (owns_zero fun x h => (hx x h).good.own)), r1]
end Go.Proofs.YtloccjkcmlkifaaDoor
end

section
/- xform.exclude, told of whole operations. -/
namespace Go.Proofs.YtloccjkcmlkifaaDoor
open Go.RowKit Go.Proofs.YtloccjkcmlkifaaDoor.PAll Go.Proofs.YtloccjkcmlkifaaDoorW.PrintWords

attribute [local go_sem high] eqA35 idx35_0 idx35_1
def aimB (a b : S41) : Bool := a.f4.f0 == b.f0.f0.f0 && a.f4.f1 == b.f0.f0.f1
def excP (a b : S41) (r : List S94 × List S94 × Int) : S41 × Int :=
 if clashB a b = true then (z41, 50) else if a.f0.f1 = 4 then (if aimB a b = true then (z41, 23) else (a, 0)) else if b.f0.f1 ≠ 1 then (a, 0)
 else if a.f0.f1 = 1 then (if a.f1 ≤ b.f1 then (a, 0) else if b.f1 + wid b ≤ a.f1 then moveE a (a.f1 - wid b) else (z41, 23))
 else rangedE a (r.1, if r.2.2 = 0 ∧ 0 < r.2.1.length then 23 else r.2.2)

set_option maxRecDepth 100000 in
set_option maxHeartbeats 4000000 in
theorem exclude_any (a b : S41) (va vb : Value) (r : List S94 × List S94 × Int) (w : World) (hG : GW w) (ha : OpC w va a) (hb : OpC w vb b) (hl : a.f3.length ≤ 1048576)
 (hp : 0 ≤ a.f1 ∧ a.f1 ≤ 1048576) (hpb : 0 ≤ b.f1 ∧ b.f1 ≤ 1048576) (hwa : 0 ≤ wid a ∧ wid a ≤ 1048576) (hwb : 0 ≤ wid b ∧ wid b ≤ 1048576)
 (hr : a.f0.f1 ≠ 1 → a.f0.f1 ≠ 4 → b.f0.f1 = 1 → ∃ k, span_Back.f k a.f3 b.f1 (wid b) = some r) :
 Calls Tryd.prog 75 #[.agg (opA a va), .agg (opA b vb)] w (RetOp w (excP a b r)) := by
 obtain ⟨A, c, rfl, h1, h2⟩ := ha
 obtain ⟨B, d, rfl, h3, h4⟩ := hb
 have S := Aside0.mk (St.init w (F := fun _ => True) (fun _ _ => trivial))
 have H1 := Aside0.mk h1; have H2 := Aside0.mk h2
 have HA := Aside0.mk (opC_mk h1 h2); have HB := Aside0.mk (opC_mk h3 h4)
 have HG := Aside0.mk hG
 clear h1 h2 h3 h4 hG
 unfold excP
 by_cases hcl : clashB a b = true
 · rw [if_pos hcl]
   have HC := Aside0.mk hcl
   clear hcl hr
   go_enter Tryd.func75, Tryd.ntmps75
   go_wp2_with (first | ((with_reducible refine gate_box rfl ?_); refine ev_box S ?_; clear S; intro _ _ S) | ((with_reducible refine gate_new rfl ?_); refine ev_new S 41 zA ?_; clear S; intro _ _ S) | ((with_reducible refine gate_load rfl ?_); first | refine ev_load S ?_ | refine ev_fld S ?_) | ((with_reducible refine gate_st rfl ?_); refine ev_store S ?_; clear S; intro _ S) | (go_at_call 71; (with_reducible refine (clash_any a b _ _ _ _ (HA.out.below S.out.below) (HB.out.below S.out.below) HC.out).mono ?_); rintro e w7 ⟨rfl, hb⟩; replace S := Aside0.mk (S.out.step hb); clear hb))
   exact bodyPost_ret (results_ct rfl _ _ _ 41 zA (0, 0) _ rfl (S.out.at_ 0 rfl) Tryd.underlying41 rfl (by kernel_rfl)) rfl ⟨.slice none 0 0, rfl, opR_nil _ _, S.out.below⟩
 rw [if_neg hcl]
 have HC : Aside0 (clashB a b = false) := ⟨by simpa using hcl⟩
 clear hcl
 by_cases k4 : a.f0.f1 = 4
 · rw [if_pos k4]
   have k4' : (a.f0.f1 == 4) = true := beq_iff_eq.mpr k4
   clear k4 hr hp hpb hwa hwb
   by_cases t0 : a.f4.f0 = b.f0.f0.f0 ∧ a.f4.f1 = b.f0.f0.f1
   · rw [if_pos (by unfold aimB; simp [t0.1, t0.2])]
     have e0 : (a.f4.f0 == b.f0.f0.f0) = true := by simp [t0.1]
     have e1 : (a.f4.f1 == b.f0.f0.f1) = true := by simp [t0.2]
     clear t0
     go_enter Tryd.func75, Tryd.ntmps75
     go_wp2_with (first | ((with_reducible refine gate_box rfl ?_); refine ev_box S ?_; clear S; intro _ _ S) | ((with_reducible refine gate_new rfl ?_); refine ev_new S 41 zA ?_; clear S; intro _ _ S) | ((with_reducible refine gate_load rfl ?_); first | refine ev_load S ?_ | refine ev_fld S ?_) | ((with_reducible refine gate_st rfl ?_); refine ev_store S ?_; clear S; intro _ S) | (go_at_call 71; (with_reducible refine (clash_any a b _ _ _ _ (HA.out.below S.out.below) (HB.out.below S.out.below) HC.out).mono ?_); rintro e w7 ⟨rfl, hb⟩; replace S := Aside0.mk (S.out.step hb); clear hb))
     exact bodyPost_ret (results_ct rfl _ _ _ 41 zA (0, 0) _ rfl (S.out.at_ 0 rfl) Tryd.underlying41 rfl (by kernel_rfl)) rfl ⟨.slice none 0 0, rfl, opR_nil _ _, S.out.below⟩
   · rw [if_neg (by unfold aimB; simp only [Bool.and_eq_true, beq_iff_eq]; exact t0)]
     have e2 : (a.f4.f0 == b.f0.f0.f0) = true ∧ (a.f4.f1 == b.f0.f0.f1) = false ∨ (a.f4.f0 == b.f0.f0.f0) = false := by
      by_cases q : a.f4.f0 = b.f0.f0.f0
      · exact .inl ⟨by simp [q], by simp only [beq_eq_false_iff_ne]; exact fun h => t0 ⟨q, h⟩⟩
      · exact .inr (by simpa using q)
     clear t0
     rcases e2 with ⟨e0, e1⟩ | e0
     all_goals
      go_enter Tryd.func75, Tryd.ntmps75
      go_wp2_with (first | ((with_reducible refine gate_box rfl ?_); refine ev_box S ?_; clear S; intro _ _ S) | ((with_reducible refine gate_new rfl ?_); refine ev_new S 41 zA ?_; clear S; intro _ _ S) | ((with_reducible refine gate_load rfl ?_); first | refine ev_load S ?_ | refine ev_fld S ?_) | ((with_reducible refine gate_st rfl ?_); refine ev_store S ?_; clear S; intro _ S) | (go_at_call 71; (with_reducible refine (clash_any a b _ _ _ _ (HA.out.below S.out.below) (HB.out.below S.out.below) HC.out).mono ?_); rintro e w7 ⟨rfl, hb⟩; replace S := Aside0.mk (S.out.step hb); clear hb) | (go_at_call 64; (with_reducible refine (clone_any a _ _ (HA.out.below S.out.below) hl).mono ?_); rintro e w7 ⟨v, rfl, hR, hb⟩; obtain ⟨Ao, co, rfl⟩ := hR.slice; replace S := Aside0.mk (S.out.addOp hb hR); clear hb hR))
      exact bodyPost_ret (results_ct rfl _ _ _ 41 _ (0, 0) _ rfl (S.out.at_ 0 rfl) Tryd.underlying41 rfl (by kernel_rfl)) rfl ⟨_, rfl, S.out.now.2, S.out.below⟩
 rw [if_neg k4]
 have k4' : (a.f0.f1 == 4) = false := beq_eq_false_iff_ne.mpr k4
 by_cases hk : b.f0.f1 = 1
 case neg =>
  rw [if_pos hk]
  have hk' : (b.f0.f1 != 1) = true := bne_iff_ne.mpr hk
  clear hk hr k4 hp hpb hwa hwb
  go_enter Tryd.func75, Tryd.ntmps75
  go_wp2_with (first | ((with_reducible refine gate_box rfl ?_); refine ev_box S ?_; clear S; intro _ _ S) | ((with_reducible refine gate_new rfl ?_); refine ev_new S 41 zA ?_; clear S; intro _ _ S) | ((with_reducible refine gate_load rfl ?_); first | refine ev_load S ?_ | refine ev_fld S ?_) | ((with_reducible refine gate_st rfl ?_); refine ev_store S ?_; clear S; intro _ S) | (go_at_call 71; (with_reducible refine (clash_any a b _ _ _ _ (HA.out.below S.out.below) (HB.out.below S.out.below) HC.out).mono ?_); rintro e w7 ⟨rfl, hb⟩; replace S := Aside0.mk (S.out.step hb); clear hb) | (go_at_call 64; (with_reducible refine (clone_any a _ _ (HA.out.below S.out.below) hl).mono ?_); rintro e w7 ⟨v, rfl, hR, hb⟩; obtain ⟨Ao, co, rfl⟩ := hR.slice; replace S := Aside0.mk (S.out.addOp hb hR); clear hb hR))
  exact bodyPost_ret (results_ct rfl _ _ _ 41 _ (0, 0) _ rfl (S.out.at_ 0 rfl) Tryd.underlying41 rfl (by kernel_rfl)) rfl ⟨_, rfl, S.out.now.2, S.out.below⟩
 rw [if_neg (show ¬ b.f0.f1 ≠ 1 from fun h => h hk)]
 have hk' : (b.f0.f1 != 1) = false := bne_eq_false_iff_eq.mpr hk
 by_cases ka : a.f0.f1 = 1
 · rw [if_pos ka]
   have ka' : (a.f0.f1 == 1) = true := beq_iff_eq.mpr ka
   clear ka k4 hk hr
   by_cases c1 : a.f1 ≤ b.f1
   · rw [if_pos c1]
     have c1' : decide (a.f1 ≤ b.f1) = true := decide_eq_true c1
     clear c1 hp hpb hwa hwb
     go_enter Tryd.func75, Tryd.ntmps75
     go_wp2_with (first | ((with_reducible refine gate_box rfl ?_); refine ev_box S ?_; clear S; intro _ _ S) | ((with_reducible refine gate_new rfl ?_); refine ev_new S 41 zA ?_; clear S; intro _ _ S) | ((with_reducible refine gate_load rfl ?_); first | refine ev_load S ?_ | refine ev_fld S ?_) | ((with_reducible refine gate_st rfl ?_); refine ev_store S ?_; clear S; intro _ S) | (go_at_call 71; (with_reducible refine (clash_any a b _ _ _ _ (HA.out.below S.out.below) (HB.out.below S.out.below) HC.out).mono ?_); rintro e w7 ⟨rfl, hb⟩; replace S := Aside0.mk (S.out.step hb); clear hb) | (go_at_call 53; (with_reducible refine (width_any b _ _ (GW.below HG.out S.out.below) (HB.out.below S.out.below)).mono ?_); rintro e w7 ⟨rfl, hb⟩; replace S := Aside0.mk (S.out.step hb); clear hb) | (go_at_call 64; (with_reducible refine (clone_any a _ _ (HA.out.below S.out.below) hl).mono ?_); rintro e w7 ⟨v, rfl, hR, hb⟩; obtain ⟨Ao, co, rfl⟩ := hR.slice; replace S := Aside0.mk (S.out.addOp hb hR); clear hb hR))
     exact bodyPost_ret (results_ct rfl _ _ _ 41 _ (0, 0) _ rfl (S.out.at_ 0 rfl) Tryd.underlying41 rfl (by kernel_rfl)) rfl ⟨_, rfl, S.out.now.2, S.out.below⟩
   · rw [if_neg c1]
     have c1' : decide (a.f1 ≤ b.f1) = false := decide_eq_false c1
     have hw := show IntKind.i64.wrap (b.f1 + wid b) = b.f1 + wid b from IntWalk.i64_in _ (by omega)
     have HM := Aside0.mk (show (-4611686018427387904 ≤ a.f1 - wid b ∧ a.f1 - wid b ≤ 4611686018427387904) ∧ (-4611686018427387904 ≤ wid a ∧ wid a ≤ 4611686018427387000) by omega)
     have hw2 := show IntKind.i64.wrap (a.f1 - wid b) = a.f1 - wid b from IntWalk.i64_in _ (by omega)
     clear c1 hp hpb hwa hwb
     by_cases c2 : b.f1 + wid b ≤ a.f1
     · rw [if_pos c2]
       have c2' : decide (b.f1 + wid b ≤ a.f1) = true := decide_eq_true c2
       clear c2
       go_enter Tryd.func75, Tryd.ntmps75
       go_wp2_with (first | ((with_reducible refine gate_box rfl ?_); refine ev_box S ?_; clear S; intro _ _ S) | ((with_reducible refine gate_new rfl ?_); refine ev_new S 41 zA ?_; clear S; intro _ _ S) | ((with_reducible refine gate_load rfl ?_); first | refine ev_load S ?_ | refine ev_fld S ?_) | ((with_reducible refine gate_st rfl ?_); refine ev_store S ?_; clear S; intro _ S) | (go_at_call 71; (with_reducible refine (clash_any a b _ _ _ _ (HA.out.below S.out.below) (HB.out.below S.out.below) HC.out).mono ?_); rintro e w7 ⟨rfl, hb⟩; replace S := Aside0.mk (S.out.step hb); clear hb) | (go_at_call 53; (with_reducible refine (width_any b _ _ (GW.below HG.out S.out.below) (HB.out.below S.out.below)).mono ?_); rintro e w7 ⟨rfl, hb⟩; replace S := Aside0.mk (S.out.step hb); clear hb) | (go_at_call 72; (with_reducible refine (moved_any a _ (a.f1 - wid b) _ (GW.below HG.out S.out.below) (HA.out.below S.out.below) HM.out.1 HM.out.2).mono ?_); rintro e w7 ⟨v, rfl, hR, hb⟩; obtain ⟨Ao, co, rfl⟩ := hR.slice; replace S := Aside0.mk (S.out.addOp hb hR); clear hb hR))
       exact bodyPost_ret (results_ct rfl _ _ _ 41 _ (0, 0) _ rfl (S.out.at_ 0 rfl) Tryd.underlying41 rfl (by kernel_rfl)) rfl ⟨_, rfl, S.out.now.2, S.out.below⟩
     · rw [if_neg c2]
       have c2' : decide (b.f1 + wid b ≤ a.f1) = false := decide_eq_false c2
       clear c2
       go_enter Tryd.func75, Tryd.ntmps75
       go_wp2_with (first | ((with_reducible refine gate_box rfl ?_); refine ev_box S ?_; clear S; intro _ _ S) | ((with_reducible refine gate_new rfl ?_); refine ev_new S 41 zA ?_; clear S; intro _ _ S) | ((with_reducible refine gate_load rfl ?_); first | refine ev_load S ?_ | refine ev_fld S ?_) | ((with_reducible refine gate_st rfl ?_); refine ev_store S ?_; clear S; intro _ S) | (go_at_call 71; (with_reducible refine (clash_any a b _ _ _ _ (HA.out.below S.out.below) (HB.out.below S.out.below) HC.out).mono ?_); rintro e w7 ⟨rfl, hb⟩; replace S := Aside0.mk (S.out.step hb); clear hb) | (go_at_call 53; (with_reducible refine (width_any b _ _ (GW.below HG.out S.out.below) (HB.out.below S.out.below)).mono ?_); rintro e w7 ⟨rfl, hb⟩; replace S := Aside0.mk (S.out.step hb); clear hb))
       exact bodyPost_ret (results_ct rfl _ _ _ 41 zA (0, 0) _ rfl (S.out.at_ 0 rfl) Tryd.underlying41 rfl (by kernel_rfl)) rfl ⟨.slice none 0 0, rfl, opR_nil _ _, S.out.below⟩
 · rw [if_neg ka]
   have ka' : (a.f0.f1 == 1) = false := beq_eq_false_iff_ne.mpr ka
   obtain ⟨k, hq⟩ := hr ka k4 hk
   have HT := Aside0.mk hq
   clear hr hq ka k4 hk hp hpb hwa hwb
   by_cases e0 : r.2.2 = 0
   · have e0' : (r.2.2 == 0) = true := beq_iff_eq.mpr e0
     by_cases l0 : 0 < r.2.1.length
     · rw [if_pos ⟨e0, l0⟩]
       have l1 : ¬ r.2.1 = [] := fun h => by rw [h] at l0; simp at l0
       have l2 : decide (0 < r.2.1.length) = true := decide_eq_true l0
       clear e0 l0
       go_enter Tryd.func75, Tryd.ntmps75
       go_wp2_with (first | ((with_reducible refine gate_box rfl ?_); refine ev_box S ?_; clear S; intro _ _ S) | ((with_reducible refine gate_new rfl ?_); refine ev_new S 41 zA ?_; clear S; intro _ _ S) | ((with_reducible refine gate_load rfl ?_); first | refine ev_load S ?_ | refine ev_fld S ?_) | ((with_reducible refine gate_st rfl ?_); refine ev_store S ?_; clear S; intro _ S) | (go_at_call 71; (with_reducible refine (clash_any a b _ _ _ _ (HA.out.below S.out.below) (HB.out.below S.out.below) HC.out).mono ?_); rintro e w7 ⟨rfl, hb⟩; replace S := Aside0.mk (S.out.step hb); clear hb) | (go_at_call 53; (with_reducible refine (width_any b _ _ (GW.below HG.out S.out.below) (HB.out.below S.out.below)).mono ?_); rintro e w7 ⟨rfl, hb⟩; replace S := Aside0.mk (S.out.step hb); clear hb) | (go_at_call 94; (with_reducible refine (span_Back.calls k A c a.f3 b.f1 (wid b) r.1 r.2.1 r.2.2 _ (Kd.C_below H2.out S.out.below) H1.out HT.out).mono ?_); rintro e w7 ⟨v, u, rfl, hR, hR2, hb⟩; replace hR := Kd.R_mono hR (fun _ _ => trivial); replace hR2 := Kd.R_mono hR2 (fun _ _ => trivial); obtain ⟨Ao, co, rfl⟩ := Kd.R_slice hR; obtain ⟨Ai, ci, rfl⟩ := Kd.R_slice hR2; replace S := Aside0.mk (S.out.addR2 hb hR hR2); clear hb hR hR2) | (go_at_call 74; (with_reducible refine (ranged_any a _ (r.1, 23) _ w _ _ _ S.out ?hbs HA.out S.out.now.1.2).mono ?_); (case hbs => simp [k94_E]); rintro e w7 ⟨v, rfl, ⟨Ao, co, rfl⟩, hS⟩; replace S := Aside0.mk hS; clear hS))
       exact bodyPost_ret (results_ct rfl _ _ _ 41 _ (0, 0) _ rfl (S.out.at_ 0 rfl) Tryd.underlying41 rfl (by kernel_rfl)) rfl ⟨_, rfl, S.out.now.2, S.out.below⟩
     · rw [if_neg (fun h => l0 h.2)]
       have l1 : r.2.1 = [] := List.eq_nil_of_length_eq_zero (by omega)
       have l2 : decide (0 < r.2.1.length) = false := decide_eq_false l0
       clear e0 l0
       go_enter Tryd.func75, Tryd.ntmps75
       go_wp2_with (first | ((with_reducible refine gate_box rfl ?_); refine ev_box S ?_; clear S; intro _ _ S) | ((with_reducible refine gate_new rfl ?_); refine ev_new S 41 zA ?_; clear S; intro _ _ S) | ((with_reducible refine gate_load rfl ?_); first | refine ev_load S ?_ | refine ev_fld S ?_) | ((with_reducible refine gate_st rfl ?_); refine ev_store S ?_; clear S; intro _ S) | (go_at_call 71; (with_reducible refine (clash_any a b _ _ _ _ (HA.out.below S.out.below) (HB.out.below S.out.below) HC.out).mono ?_); rintro e w7 ⟨rfl, hb⟩; replace S := Aside0.mk (S.out.step hb); clear hb) | (go_at_call 53; (with_reducible refine (width_any b _ _ (GW.below HG.out S.out.below) (HB.out.below S.out.below)).mono ?_); rintro e w7 ⟨rfl, hb⟩; replace S := Aside0.mk (S.out.step hb); clear hb) | (go_at_call 94; (with_reducible refine (span_Back.calls k A c a.f3 b.f1 (wid b) r.1 r.2.1 r.2.2 _ (Kd.C_below H2.out S.out.below) H1.out HT.out).mono ?_); rintro e w7 ⟨v, u, rfl, hR, hR2, hb⟩; replace hR := Kd.R_mono hR (fun _ _ => trivial); replace hR2 := Kd.R_mono hR2 (fun _ _ => trivial); obtain ⟨Ao, co, rfl⟩ := Kd.R_slice hR; obtain ⟨Ai, ci, rfl⟩ := Kd.R_slice hR2; replace S := Aside0.mk (S.out.addR2 hb hR hR2); clear hb hR hR2) | (go_at_call 74; (with_reducible refine (ranged_any a _ (r.1, r.2.2) _ w _ _ _ S.out ?hbs HA.out S.out.now.1.2).mono ?_); (case hbs => simp [k94_E]); rintro e w7 ⟨v, rfl, ⟨Ao, co, rfl⟩, hS⟩; replace S := Aside0.mk hS; clear hS))
       exact bodyPost_ret (results_ct rfl _ _ _ 41 _ (0, 0) _ rfl (S.out.at_ 0 rfl) Tryd.underlying41 rfl (by kernel_rfl)) rfl ⟨_, rfl, S.out.now.2, S.out.below⟩
   · rw [if_neg (fun h => e0 h.1)]
     have e0' : (r.2.2 == 0) = false := beq_eq_false_iff_ne.mpr e0
     clear e0
     go_enter Tryd.func75, Tryd.ntmps75
     go_wp2_with (first | ((with_reducible refine gate_box rfl ?_); refine ev_box S ?_; clear S; intro _ _ S) | ((with_reducible refine gate_new rfl ?_); refine ev_new S 41 zA ?_; clear S; intro _ _ S) | ((with_reducible refine gate_load rfl ?_); first | refine ev_load S ?_ | refine ev_fld S ?_) | ((with_reducible refine gate_st rfl ?_); refine ev_store S ?_; clear S; intro _ S) | (go_at_call 71; (with_reducible refine (clash_any a b _ _ _ _ (HA.out.below S.out.below) (HB.out.below S.out.below) HC.out).mono ?_); rintro e w7 ⟨rfl, hb⟩; replace S := Aside0.mk (S.out.step hb); clear hb) | (go_at_call 53; (with_reducible refine (width_any b _ _ (GW.below HG.out S.out.below) (HB.out.below S.out.below)).mono ?_); rintro e w7 ⟨rfl, hb⟩; replace S := Aside0.mk (S.out.step hb); clear hb) | (go_at_call 94; (with_reducible refine (span_Back.calls k A c a.f3 b.f1 (wid b) r.1 r.2.1 r.2.2 _ (Kd.C_below H2.out S.out.below) H1.out HT.out).mono ?_); rintro e w7 ⟨v, u, rfl, hR, hR2, hb⟩; replace hR := Kd.R_mono hR (fun _ _ => trivial); replace hR2 := Kd.R_mono hR2 (fun _ _ => trivial); obtain ⟨Ao, co, rfl⟩ := Kd.R_slice hR; obtain ⟨Ai, ci, rfl⟩ := Kd.R_slice hR2; replace S := Aside0.mk (S.out.addR2 hb hR hR2); clear hb hR hR2) | (go_at_call 74; (with_reducible refine (ranged_any a _ (r.1, r.2.2) _ w _ _ _ S.out ?hbs HA.out S.out.now.1.2).mono ?_); (case hbs => simp [k94_E]); rintro e w7 ⟨v, rfl, ⟨Ao, co, rfl⟩, hS⟩; replace S := Aside0.mk hS; clear hS))
     exact bodyPost_ret (results_ct rfl _ _ _ 41 _ (0, 0) _ rfl (S.out.at_ 0 rfl) Tryd.underlying41 rfl (by kernel_rfl)) rfl ⟨_, rfl, S.out.now.2, S.out.below⟩
end Go.Proofs.YtloccjkcmlkifaaDoor
end

section
/- span.Back, of ranges in order. -/
namespace Go.Proofs.YtloccjkcmlkifaaDoor
open Go.RowKit Go.Proofs.YtloccjkcmlkifaaDoor.PAll Go.Proofs.YtloccjkcmlkifaaDoorW.PrintWords

theorem lastLe.mono {acc : List S94} {p q : Int} (h : lastLe acc p) (hq : p ≤ q) : lastLe acc q := fun h0 => Int.le_trans (h h0) hq
theorem add_tot (acc : List S94) (lo hi : Int) (hl : acc.length ≤ 4398046511104) : ∃ r, span_add.f acc lo hi = some r ∧ acc.length ≤ r.length ∧ r.length ≤ acc.length + 1 ∧ (lo < hi → 0 < r.length) := by
 unfold span_add.f
 by_cases h0 : lo ≥ hi
 · rw [if_pos h0]; exact ⟨_, rfl, Nat.le_refl _, by omega, fun h => by omega⟩
 rw [if_neg h0]
 have hl' : acc.length < 8796093022208 := by omega
 by_cases h : 0 < acc.length
 · have w : wrap64 ((acc.length : Int) - 1) = ((acc.length - 1 : Nat) : Int) := by rw [wrap_id (by omega) (by omega)]; omega
   rw [if_pos (show (acc.length : Int) > 0 by omega), w, if_pos (by omega), if_pos (by omega)]
   by_cases c : (rd_T94 acc ((acc.length - 1 : Nat) : Int)).f1 ≥ lo
   · rw [if_pos c]; exact ⟨_, rfl, by simp, by simp, fun _ => by simpa using h⟩
   · rw [if_neg c, if_pos hl']; exact ⟨_, rfl, by simp, by simp, fun _ => by simp⟩
 · rw [if_neg (show ¬ (acc.length : Int) > 0 by omega), if_pos hl']; exact ⟨_, rfl, by simp, by simp, fun _ => by simp⟩
theorem add_jn (acc : List S94) (lo hi : Int) (hq : lastLe acc lo) (h2 : lo < hi) (hl : acc.length ≤ 4398046511104) : span_add.f acc lo hi = some (jn acc ⟨lo, hi⟩) := by
 unfold span_add.f jn
 have hl' : acc.length < 8796093022208 := by omega
 rw [if_neg (show ¬ lo ≥ hi by omega)]
 by_cases h : 0 < acc.length
 · have w : wrap64 ((acc.length : Int) - 1) = ((acc.length - 1 : Nat) : Int) := by rw [wrap_id (by omega) (by omega)]; omega
   have e : rd_T94 acc ((acc.length - 1 : Nat) : Int) = acc.getD (acc.length - 1) z94 := by unfold rd_T94; rw [Int.toNat_natCast]
   have hle := hq h
   rw [if_pos (show (acc.length : Int) > 0 by omega), w, if_pos (by omega), if_pos (by omega), e]
   by_cases c : (acc.getD (acc.length - 1) z94).f1 = lo
   · have m : mx (acc.getD (acc.length - 1) z94).f1 hi = hi := by unfold mx; split <;> omega
     rw [if_pos (show (acc.getD (acc.length - 1) z94).f1 ≥ lo by omega), m, Int.toNat_natCast, if_pos ⟨h, c⟩]
   · rw [if_neg (show ¬ (acc.getD (acc.length - 1) z94).f1 ≥ lo by omega), if_pos hl', if_neg (fun q => c q.2)]
 · rw [if_neg (show ¬ (acc.length : Int) > 0 by omega), if_pos hl', if_neg (fun q => h q.1)]
theorem lastLe_jn (acc : List S94) (r : S94) : lastLe (jn acc r) r.f1 := by
 unfold jn
 by_cases c : 0 < acc.length ∧ (acc.getD (acc.length - 1) z94).f1 = r.f0
 · rw [if_pos c]
   intro _
   rw [List.length_set, List.getD_eq_getElem?_getD, List.getElem?_set_self (by omega)]
   exact Int.le_refl _
 · rw [if_neg c]; exact lastLe_snoc _ _ _ (Int.le_refl _)
def mv (p n : Int) (r : S94) : S94 := if r.f1 ≤ p then r else ⟨r.f0 - n, r.f1 - n⟩
def hits (p n : Int) (l : List S94) : Bool := l.any fun r => decide (p < r.f1 ∧ r.f0 < p + n)
def bkS (p n : Int) (l : List S94) : List S94 := (l.map (mv p n)).foldl jn []
def un (p n x : Int) : Int := if x ≤ p then x else x - n
section
variable (L : List S94) (p n : Int) (hp : 0 ≤ p ∧ p ≤ 1048576) (hn : 1 ≤ n ∧ n ≤ 1048576) (hL : L.length ≤ 1048576)
include hp hn hL
theorem back_loop : ∀ (d k i : Nat) (acc : List S94) (x : Int), L.length = i + d → -1 ≤ x → Nrm x (L.drop i) → hits p n (L.drop i) = false → lastLe acc (un p n x) → acc.length ≤ i → d + 1 ≤ k →
 span_Back.l0 k p n acc [] L (L.length : Int) (i : Int) = some (((L.drop i).map (mv p n)).foldl jn acc, [], 0) := by
 intro d
 induction d with
 | zero =>
  intro k i acc x h1 hx hN hh hla hal hk
  obtain ⟨k, rfl⟩ : ∃ m, k = m + 1 := ⟨k - 1, by omega⟩
  rw [span_Back.l0, if_neg (by omega), List.drop_eq_nil_of_le (by omega)]
  rfl
 | succ d ih =>
  intro k i acc x h1 hx hN hh hla hal hk
  obtain ⟨k, rfl⟩ : ∃ m, k = m + 1 := ⟨k - 1, by omega⟩
  have hi : i < L.length := by omega
  have w : wrap64 ((i : Int) + 1) = ((i + 1 : Nat) : Int) := by clear ih hk hN hla; rw [wrap_id (by omega) (by omega)]; omega
  obtain ⟨r, hr⟩ : ∃ r, r = L.getD i z94 := ⟨_, rfl⟩
  have hd : L.drop i = r :: L.drop (i + 1) := by
   rw [hr, List.drop_eq_getElem_cons hi, List.getD_eq_getElem?_getD, List.getElem?_eq_getElem hi]; rfl
  have e : rd_T94 L (i : Int) = r := by unfold rd_T94; rw [Int.toNat_natCast, hr]
  rw [hd] at hN hh ⊢
  obtain ⟨b1, b2, b3, b4⟩ := hN
  have hh1 : decide (p < r.f1 ∧ r.f0 < p + n) = false ∧ hits p n (L.drop (i + 1)) = false := by
   unfold hits at hh ⊢
   simpa only [List.any_cons, Bool.or_eq_false_iff] using hh
  obtain ⟨hh1, hh2⟩ := hh1
  have hh1 := of_decide_eq_false hh1
  have w0 : wrap64 (p + n) = p + n := wrap_id (by omega) (by omega)
  have q1 : (i : Int) < (L.length : Int) := by omega
  have q2 : (0 : Int) ≤ (i : Int) := by omega
  have ql : acc.length ≤ 4398046511104 := by omega
  have hjl := jn_len acc (mv p n r)
  have g1 : L.length = (i + 1) + d := by omega
  have g2 : d + 1 ≤ k := by omega
  have g3 : (jn acc (mv p n r)).length ≤ i + 1 := by omega
  have g4 : -1 ≤ r.f1 := by omega
  rw [span_Back.l0, if_pos q1, if_pos q2, if_pos q1, e, w0, w]
  by_cases c : r.f1 ≤ p
  · have m1 : mn r.f1 p = r.f1 := by unfold mn; split <;> omega
    have m2 : mx r.f0 p = p := by unfold mx; split <;> omega
    have m3 : mn r.f1 (p + n) = r.f1 := by unfold mn; split <;> omega
    have m4 : mx r.f0 (p + n) = p + n := by unfold mx; split <;> omega
    have v1 : wrap64 (p - p) = 0 := by rw [wrap_id (by omega) (by omega)]; omega
    have v2 : wrap64 (r.f1 - p) = r.f1 - p := wrap_id (by omega) (by omega)
    have v3 : wrap64 (p + n - n) = p := by rw [wrap_id (by omega) (by omega)]; omega
    have v4 : wrap64 (r.f1 - n) = r.f1 - n := wrap_id (by omega) (by omega)
    have hm : mv p n r = r := if_pos c
    have hq : lastLe acc r.f0 := hla.mono (by unfold un; split <;> omega)
    rw [hm] at g3
    rw [m1, m2, m3, m4, v1, v2, v3, v4, add_jn acc r.f0 r.f1 hq b2 ql]
    simp only [Option.bind_some]
    rw [add_no [] _ _ (by omega)]
    simp only [Option.bind_some]
    rw [add_no _ _ _ (by omega)]
    simp only [Option.bind_some]
    rw [ih k (i + 1) (jn acc ⟨r.f0, r.f1⟩) r.f1 g1 g4 b4 hh2 (by
     have : un p n r.f1 = r.f1 := if_pos c
     rw [this]; exact lastLe_jn acc r) g3 g2]
    rw [List.map_cons, List.foldl_cons, hm]
  · have c2 : p + n ≤ r.f0 := by omega
    have m1 : mn r.f1 p = p := by unfold mn; split <;> omega
    have m2 : mx r.f0 p = r.f0 := by unfold mx; split <;> omega
    have m3 : mn r.f1 (p + n) = p + n := by unfold mn; split <;> omega
    have m4 : mx r.f0 (p + n) = r.f0 := by unfold mx; split <;> omega
    have v1 : wrap64 (r.f0 - p) = r.f0 - p := wrap_id (by omega) (by omega)
    have v2 : wrap64 (p + n - p) = n := by rw [wrap_id (by omega) (by omega)]; omega
    have v3 : wrap64 (r.f0 - n) = r.f0 - n := wrap_id (by omega) (by omega)
    have v4 : wrap64 (r.f1 - n) = r.f1 - n := wrap_id (by omega) (by omega)
    have hm : mv p n r = ⟨r.f0 - n, r.f1 - n⟩ := if_neg c
    have hq : lastLe acc (r.f0 - n) := hla.mono (by unfold un; split <;> omega)
    rw [hm] at g3
    rw [m1, m2, m3, m4, v1, v2, v3, v4, add_no acc _ _ (by omega)]
    simp only [Option.bind_some]
    rw [add_no [] _ _ (by omega)]
    simp only [Option.bind_some]
    rw [add_jn acc (r.f0 - n) (r.f1 - n) hq (by omega) ql]
    simp only [Option.bind_some]
    rw [ih k (i + 1) (jn acc ⟨r.f0 - n, r.f1 - n⟩) r.f1 g1 g4 b4 hh2 (by
     have : un p n r.f1 = r.f1 - n := if_neg c
     rw [this]; exact lastLe_jn acc ⟨r.f0 - n, r.f1 - n⟩) g3 g2]
    rw [List.map_cons, List.foldl_cons, hm]
theorem back_hit : ∀ (d k i : Nat) (acc inn : List S94) (x : Int), L.length = i + d → -1 ≤ x → Nrm x (L.drop i) → (0 < inn.length ∨ hits p n (L.drop i) = true) → acc.length ≤ 2 * i → inn.length ≤ i → d + 1 ≤ k →
 ∃ o j, span_Back.l0 k p n acc inn L (L.length : Int) (i : Int) = some (o, j, 0) ∧ 0 < j.length := by
 intro d
 induction d with
 | zero =>
  intro k i acc inn x h1 hx hN hh hal hil hk
  obtain ⟨k, rfl⟩ : ∃ m, k = m + 1 := ⟨k - 1, by omega⟩
  rw [span_Back.l0, if_neg (by omega)]
  refine ⟨_, _, rfl, ?_⟩
  rcases hh with h | h
  · exact h
  · rw [List.drop_eq_nil_of_le (by omega)] at h; exact absurd h (by simp [hits])
 | succ d ih =>
  intro k i acc inn x h1 hx hN hh hal hil hk
  obtain ⟨k, rfl⟩ : ∃ m, k = m + 1 := ⟨k - 1, by omega⟩
  have hi : i < L.length := by omega
  have w : wrap64 ((i : Int) + 1) = ((i + 1 : Nat) : Int) := by clear ih hk hN; rw [wrap_id (by omega) (by omega)]; omega
  obtain ⟨r, hr⟩ : ∃ r, r = L.getD i z94 := ⟨_, rfl⟩
  have hd : L.drop i = r :: L.drop (i + 1) := by
   rw [hr, List.drop_eq_getElem_cons hi, List.getD_eq_getElem?_getD, List.getElem?_eq_getElem hi]; rfl
  have e : rd_T94 L (i : Int) = r := by unfold rd_T94; rw [Int.toNat_natCast, hr]
  rw [hd] at hN hh
  obtain ⟨b1, b2, b3, b4⟩ := hN
  have w0 : wrap64 (p + n) = p + n := wrap_id (by omega) (by omega)
  have q1 : (i : Int) < (L.length : Int) := by omega
  have q2 : (0 : Int) ≤ (i : Int) := by omega
  have bx : p ≤ mx r.f0 p ∧ mx r.f0 p ≤ 1048576 ∧ (mx r.f0 p = r.f0 ∨ mx r.f0 p = p) := by unfold mx; split <;> omega
  have bn : 0 ≤ mn r.f1 (p + n) ∧ mn r.f1 (p + n) ≤ 2097152 ∧ (mn r.f1 (p + n) = r.f1 ∨ mn r.f1 (p + n) = p + n) := by unfold mn; split <;> omega
  have v1 : wrap64 (mx r.f0 p - p) = mx r.f0 p - p := wrap_id (by omega) (by omega)
  have v2 : wrap64 (mn r.f1 (p + n) - p) = mn r.f1 (p + n) - p := wrap_id (by omega) (by omega)
  obtain ⟨t1, a1, l1, l2, _⟩ := add_tot acc r.f0 (mn r.f1 p) (by omega)
  obtain ⟨t2, a2, l3, l4, l5⟩ := add_tot inn (mx r.f0 p - p) (mn r.f1 (p + n) - p) (by omega)
  obtain ⟨t3, a3, l6, l7, _⟩ := add_tot t1 (wrap64 (mx r.f0 (p + n) - n)) (wrap64 (r.f1 - n)) (by omega)
  rw [span_Back.l0, if_pos q1, if_pos q2, if_pos q1, e, w0, v1, v2, a1]
  simp only [Option.bind_some]
  rw [a2]
  simp only [Option.bind_some]
  rw [a3]
  simp only [Option.bind_some]
  rw [w]
  have g0 : 0 < t2.length ∨ hits p n (L.drop (i + 1)) = true := by
   rcases hh with h | h
   · exact .inl (by omega)
   · unfold hits at h ⊢
     simp only [List.any_cons, Bool.or_eq_true] at h
     rcases h with h | h
     · have h' := of_decide_eq_true h
       exact .inl (l5 (by
        have m1 : mx r.f0 p < mn r.f1 (p + n) := by unfold mx mn; split <;> split <;> omega
        omega))
     · exact .inr h
  have g1 : L.length = (i + 1) + d := by omega
  have g2 : -1 ≤ r.f1 := by omega
  have g3 : t3.length ≤ 2 * (i + 1) := by omega
  have g4 : t2.length ≤ i + 1 := by omega
  have g5 : d + 1 ≤ k := by omega
  exact ih k (i + 1) t3 t2 r.f1 g1 g2 b4 g0 g3 g4 g5
end
theorem back_is (l : List S94) (p n : Int) (hl : (rngE l).2 = 0) (hp : 0 ≤ p ∧ p ≤ 1048576) (hn : 1 ≤ n ∧ n ≤ 1048576) (hpn : p + n ≤ 1048576) :
 ∃ k r, span_Back.f k l p n = some r ∧ r.2.2 = 0 ∧ (hits p n l = true → 0 < r.2.1.length) ∧ (hits p n l = false → r.2.1 = [] ∧ r.1 = bkS p n l) := by
 obtain ⟨hlen, hN⟩ := rng_ok hl
 obtain ⟨K, hK⟩ := span_chk l
 dsimp only at hK
 obtain ⟨k, hk⟩ : ∃ k, k = K + l.length + 8 := ⟨_, rfl⟩
 have ho : ∀ x : Int, 0 ≤ x ∧ x ≤ 1048576 → span_outside.f x = some false := fun x hx => by
  unfold span_outside.f
  rw [if_neg (by omega), decide_eq_false (by omega)]
 have hw : wrap64 (p + n) = p + n := wrap_id (by omega) (by omega)
 have hf : span_Back.f (k + 1) l p n = span_Back.l0 k p n [] [] l (l.length : Int) ((0 : Nat) : Int) := by
  unfold span_Back.f
  rw [hK (k + 1) (by omega)]
  simp only [Option.bind_some]
  rw [if_pos hl, ho p hp]
  simp only [Option.bind_some]
  rw [if_neg (by simp), ho n ⟨by omega, hn.2⟩]
  simp only [Option.bind_some]
  rw [if_neg (by simp), hw, decide_eq_false (show ¬ p + n > 1048576 by omega), span_Back.j0, if_neg (by simp)]
  rfl
 cases hh : hits p n l with
 | false =>
  have := back_loop l p n hp hn (by omega) l.length k 0 [] (-1) (by omega) (by omega) (by simpa using hN) (by simpa using hh) (fun h => absurd h (by simp)) (by simp) (by omega)
  exact ⟨k + 1, _, hf.trans this, rfl, fun h => by simp at h, fun _ => ⟨rfl, by rw [List.drop_zero]; rfl⟩⟩
 | true =>
  obtain ⟨o, j, h1, h2⟩ := back_hit l p n hp hn (by omega) l.length k 0 [] [] (-1) (by omega) (by omega) (by simpa using hN) (.inr (by simpa using hh)) (by simp) (by simp) (by omega)
  exact ⟨k + 1, _, hf.trans h1, rfl, fun _ => h2, fun h => by simp at h⟩
def excE (a b : S41) : S41 × Int :=
 if clashB a b = true then (z41, 50) else if a.f0.f1 = 4 then (if aimB a b = true then (z41, 23) else (a, 0)) else if b.f0.f1 ≠ 1 then (a, 0)
 else if a.f0.f1 = 1 then (if a.f1 ≤ b.f1 then (a, 0) else if b.f1 + wid b ≤ a.f1 then moveE a (a.f1 - wid b) else (z41, 23))
 else if hits b.f1 (wid b) a.f3 = true then (z41, 23) else (⟨a.f0, a.f1, a.f2, bkS b.f1 (wid b) a.f3, a.f4, a.f5⟩, 0)
theorem exc_r {a b : S41} (ga : Good a) (gb : Good b) : ∃ r, (a.f0.f1 ≠ 1 → a.f0.f1 ≠ 4 → b.f0.f1 = 1 → ∃ k, span_Back.f k a.f3 b.f1 (wid b) = some r) ∧ excP a b r = excE a b := by
 by_cases h : a.f0.f1 ≠ 1 ∧ a.f0.f1 ≠ 4 ∧ b.f0.f1 = 1
 · obtain ⟨h1, h4, hb⟩ := h
   have hw := gb.wid1 hb
   have hk := ga.kind
   obtain ⟨k, r, e, r0, ht, hf⟩ := back_is a.f3 b.f1 (wid b) (ga.rng (by omega)) ⟨hw.2.2.1, by omega⟩ ⟨hw.1, by omega⟩ hw.2.2.2
   refine ⟨r, fun _ _ _ => ⟨k, e⟩, ?_⟩
   unfold excP excE
   by_cases hc : clashB a b = true
   · rw [if_pos hc, if_pos hc]
   rw [if_neg hc, if_neg hc, if_neg h4, if_neg h4, if_neg (show ¬ b.f0.f1 ≠ 1 from fun q => q hb), if_neg (show ¬ b.f0.f1 ≠ 1 from fun q => q hb), if_neg h1, if_neg h1]
   cases hh : hits b.f1 (wid b) a.f3 with
   | true =>
    rw [if_pos ⟨r0, ht hh⟩, if_pos rfl]
    rfl
   | false =>
    obtain ⟨f1, f2⟩ := hf hh
    rw [if_neg (fun q => by rw [f1] at q; exact absurd q.2 (by simp)), r0, f2, if_neg (by simp)]
    rfl
 · refine ⟨([], [], 0), fun h1 h4 hb => absurd ⟨h1, h4, hb⟩ h, ?_⟩
   unfold excP excE
   by_cases hc : clashB a b = true
   · rw [if_pos hc, if_pos hc]
   rw [if_neg hc, if_neg hc]
   by_cases h4 : a.f0.f1 = 4
   · rw [if_pos h4, if_pos h4]
   · rw [if_neg h4, if_neg h4]
     by_cases hb : b.f0.f1 = 1
     · have h1 : a.f0.f1 = 1 := Classical.byContradiction fun q => h ⟨q, h4, hb⟩
       rw [if_neg (show ¬ b.f0.f1 ≠ 1 from fun q => q hb), if_neg (show ¬ b.f0.f1 ≠ 1 from fun q => q hb), if_pos h1, if_pos h1]
     · rw [if_pos hb, if_pos hb]
theorem excE_prog (a b : S41) (va vb : Value) (w : World) (hG : GW w) (ha : OpC w va a) (hb : OpC w vb b) (ga : Good a) (gb : Good b) :
 Calls Tryd.prog 75 #[.agg (opA a va), .agg (opA b vb)] w (RetOp w (excE a b)) := by
 obtain ⟨r, h, e⟩ := exc_r ga gb
 rw [← e]
 exact exclude_any a b va vb r w hG ha hb ga.fit.len ga.fit.at_ gb.fit.at_ ga.fit.wid gb.fit.wid h
end Go.Proofs.YtloccjkcmlkifaaDoor
end

section
/- xform.transpose, told of whole operations. -/
namespace Go.Proofs.YtloccjkcmlkifaaDoor
open Go.RowKit Go.Proofs.YtloccjkcmlkifaaDoor.PAll Go.Proofs.YtloccjkcmlkifaaDoorW.PrintWords Go.Proofs.YtloccjkcmlkifaaDoorW.PrintLast

def sameAim (a b : S41) : Bool := a.f4.f0 == b.f4.f0 && a.f4.f1 == b.f4.f1
def trClash (a b : S41) : Bool := a.f0.f1 == 4 && ((b.f0.f1 == 4 && sameAim a b && (a.f5 != b.f5)) || aimB a b)
def trP (a b : S41) (rb : List S94 × List S94 × Int) (ra : List S94 × Int) : S41 × S41 × Int :=
 if (excP b a rb).2 ≠ 0 then (z41, z41, (excP b a rb).2)
 else if trClash a b = true then (z41, z41, 50)
 else if b.f0.f1 = 1 ∧ a.f0.f1 = 1 ∧ b.f1 ≤ a.f1 then (if (moveE a (a.f1 + wid b)).2 ≠ 0 then (z41, z41, (moveE a (a.f1 + wid b)).2) else ((excP b a rb).1, (moveE a (a.f1 + wid b)).1, 0))
 else if b.f0.f1 = 1 ∧ (a.f0.f1 = 2 ∨ a.f0.f1 = 3) then (if (incP a b false ra).2 ≠ 0 then (z41, z41, (incP a b false ra).2) else ((excP b a rb).1, (incP a b false ra).1, 0))
 else ((excP b a rb).1, a, 0)

attribute [local go_sem high] eqA35 idx35_0 idx35_1
set_option maxRecDepth 100000 in
set_option maxHeartbeats 8000000 in
theorem transpose_any (a b : S41) (va vb : Value) (rb : List S94 × List S94 × Int) (ra : List S94 × Int) (w : World) (hG : GW w) (ha : OpC w va a) (hb : OpC w vb b) (fa : Fit a) (fb : Fit b)
 (hrb : b.f0.f1 ≠ 1 → b.f0.f1 ≠ 4 → a.f0.f1 = 1 → ∃ k, span_Back.f k b.f3 a.f1 (wid a) = some rb)
 (hra : a.f0.f1 = 2 ∨ a.f0.f1 = 3 → b.f0.f1 = 1 → ∃ k, span_Through.f k a.f3 b.f1 (wid b) = some ra) :
 Calls Tryd.prog 62 #[.agg (opA a va), .agg (opA b vb)] w (RetOp2 w (trP a b rb ra)) := by
 obtain ⟨A, c, rfl, h1, h2⟩ := ha
 obtain ⟨B, d, rfl, h3, h4⟩ := hb
 have S := Aside0.mk (St.init w (F := fun _ => True) (fun _ _ => trivial))
 have HA := Aside0.mk (opC_mk h1 h2); have HB := Aside0.mk (opC_mk h3 h4)
 have HG := Aside0.mk hG
 have HT := Aside0.mk hrb
 have HU := Aside0.mk hra
 clear h1 h2 h3 h4 hG hrb hra
 unfold trP
 by_cases h0 : (excP b a rb).2 = 0
 case neg =>
  rw [if_pos h0]
  have h0' : ((excP b a rb).2 != 0) = true := bne_iff_ne.mpr h0
  clear h0
  go_enter Tryd.func62, Tryd.ntmps62
  go_wp2_with (first | ((with_reducible refine gate_box rfl ?_); refine ev_box S ?_; clear S; intro _ _ S) | ((with_reducible refine gate_new rfl ?_); refine ev_new S 41 zA ?_; clear S; intro _ _ S) | ((with_reducible refine gate_load rfl ?_); first | refine ev_load S ?_ | refine ev_fld S ?_) | ((with_reducible refine gate_st rfl ?_); refine ev_store S ?_; clear S; intro _ S) | (go_at_call 75; (with_reducible refine (exclude_any b a _ _ rb _ (GW.below HG.out S.out.below) (HB.out.below S.out.below) (HA.out.below S.out.below) fb.len fb.at_ fa.at_ fb.wid fa.wid HT.out).mono ?_); rintro e w7 ⟨v, rfl, hR, hb⟩; obtain ⟨Ao, co, rfl⟩ := hR.slice; replace S := Aside0.mk (S.out.addOp hb hR); clear hb hR))
  exact bodyPost_ret (results_cct rfl _ _ _ _ 41 41 zA zA (0, 0) (0, 0) _ _ rfl (S.out.at_ 1 rfl) Tryd.underlying41 rfl (by kernel_rfl) rfl (S.out.at_ 0 rfl) Tryd.underlying41 rfl (by kernel_rfl)) rfl ⟨.slice none 0 0, .slice none 0 0, rfl, opR_nil _ _, opR_nil _ _, S.out.below⟩
 rw [if_neg (fun h => h h0)]
 have h0' : ((excP b a rb).2 != 0) = false := bne_eq_false_iff_eq.mpr h0
 clear h0
 by_cases hcl : trClash a b = true
 · rw [if_pos hcl]
   have hq : (a.f0.f1 == 4) = true ∧ (((b.f0.f1 == 4) = true ∧ (a.f4.f0 == b.f4.f0 && (a.f4.f1 == b.f4.f1)) = true ∧ (a.f5 != b.f5) = true) ∨ ((b.f0.f1 == 4) = false ∧ (a.f4.f0 == b.f0.f0.f0 && (a.f4.f1 == b.f0.f0.f1)) = true) ∨ ((b.f0.f1 == 4) = true ∧ (a.f4.f0 == b.f4.f0 && (a.f4.f1 == b.f4.f1)) = false ∧ (a.f4.f0 == b.f0.f0.f0 && (a.f4.f1 == b.f0.f0.f1)) = true) ∨ ((b.f0.f1 == 4) = true ∧ (a.f4.f0 == b.f4.f0 && (a.f4.f1 == b.f4.f1)) = true ∧ (a.f5 != b.f5) = false ∧ (a.f4.f0 == b.f0.f0.f0 && (a.f4.f1 == b.f0.f0.f1)) = true)) := by
    unfold trClash sameAim aimB at hcl
    revert hcl
    generalize (a.f0.f1 == 4) = x1, (b.f0.f1 == 4) = x2, (a.f4.f0 == b.f4.f0 && (a.f4.f1 == b.f4.f1)) = x3, (a.f5 != b.f5) = x4, (a.f4.f0 == b.f0.f0.f0 && (a.f4.f1 == b.f0.f0.f1)) = x5
    revert x1 x2 x3 x4 x5
    decide
   clear hcl
   simp only [bne_iff_ne, bne_eq_false_iff_eq] at hq
   obtain ⟨q1, ⟨q2, q3, q4⟩ | ⟨q2, q5⟩ | ⟨q2, q3, q5⟩ | ⟨q2, q3, q4, q5⟩⟩ := hq
   all_goals
    go_enter Tryd.func62, Tryd.ntmps62
    go_wp2_with (first | ((with_reducible refine gate_box rfl ?_); refine ev_box S ?_; clear S; intro _ _ S) | ((with_reducible refine gate_new rfl ?_); refine ev_new S 41 zA ?_; clear S; intro _ _ S) | ((with_reducible refine gate_load rfl ?_); first | refine ev_load S ?_ | refine ev_fld S ?_) | ((with_reducible refine gate_st rfl ?_); refine ev_store S ?_; clear S; intro _ S) | (go_at_call 75; (with_reducible refine (exclude_any b a _ _ rb _ (GW.below HG.out S.out.below) (HB.out.below S.out.below) (HA.out.below S.out.below) fb.len fb.at_ fa.at_ fb.wid fa.wid HT.out).mono ?_); rintro e w7 ⟨v, rfl, hR, hb⟩; obtain ⟨Ao, co, rfl⟩ := hR.slice; replace S := Aside0.mk (S.out.addOp hb hR); clear hb hR))
    exact bodyPost_ret (results_cct rfl _ _ _ _ 41 41 zA zA (0, 0) (0, 0) _ _ rfl (S.out.at_ 1 rfl) Tryd.underlying41 rfl (by kernel_rfl) rfl (S.out.at_ 0 rfl) Tryd.underlying41 rfl (by kernel_rfl)) rfl ⟨.slice none 0 0, .slice none 0 0, rfl, opR_nil _ _, opR_nil _ _, S.out.below⟩
 rw [if_neg hcl]
 have hq : (a.f0.f1 == 4) = false ∨ (a.f0.f1 == 4) = true ∧ (a.f4.f0 == b.f0.f0.f0 && (a.f4.f1 == b.f0.f0.f1)) = false ∧ ((b.f0.f1 == 4) = false ∨ ((b.f0.f1 == 4) = true ∧ (a.f4.f0 == b.f4.f0 && (a.f4.f1 == b.f4.f1)) = false) ∨ ((b.f0.f1 == 4) = true ∧ (a.f4.f0 == b.f4.f0 && (a.f4.f1 == b.f4.f1)) = true ∧ (a.f5 != b.f5) = false)) := by
  unfold trClash sameAim aimB at hcl
  revert hcl
  generalize (a.f0.f1 == 4) = x1, (b.f0.f1 == 4) = x2, (a.f4.f0 == b.f4.f0 && (a.f4.f1 == b.f4.f1)) = x3, (a.f5 != b.f5) = x4, (a.f4.f0 == b.f0.f0.f0 && (a.f4.f1 == b.f0.f0.f1)) = x5
  revert x1 x2 x3 x4 x5
  decide
 clear hcl
 by_cases hq1 : (a.f0.f1 == 4) = true
 · have e4 : a.f0.f1 = 4 := beq_iff_eq.mp hq1
   rw [if_neg (by omega), if_neg (by omega)]
   have g1 : (a.f0.f1 == 1) = false := by simp [e4]
   have g2 : (a.f0.f1 == 2) = false := by simp [e4]
   have g3 : (a.f0.f1 == 3) = false := by simp [e4]
   clear e4
   have hq' := hq.resolve_left (by rw [hq1]; simp)
   clear hq hq1
   simp only [bne_eq_false_iff_eq] at hq'
   obtain ⟨q1, q5, q2 | ⟨q2, q3⟩ | ⟨q2, q3, q4⟩⟩ := hq'
   all_goals
    by_cases gb : (b.f0.f1 == 1) = true
    all_goals
     first | (have gb := (Bool.not_eq_true _).mp gb) | skip
     go_enter Tryd.func62, Tryd.ntmps62
     go_wp2_with (first | ((with_reducible refine gate_box rfl ?_); refine ev_box S ?_; clear S; intro _ _ S) | ((with_reducible refine gate_new rfl ?_); refine ev_new S 41 zA ?_; clear S; intro _ _ S) | ((with_reducible refine gate_load rfl ?_); first | refine ev_load S ?_ | refine ev_fld S ?_) | ((with_reducible refine gate_st rfl ?_); refine ev_store S ?_; clear S; intro _ S) | (go_at_call 75; (with_reducible refine (exclude_any b a _ _ rb _ (GW.below HG.out S.out.below) (HB.out.below S.out.below) (HA.out.below S.out.below) fb.len fb.at_ fa.at_ fb.wid fa.wid HT.out).mono ?_); rintro e w7 ⟨v, rfl, hR, hb⟩; obtain ⟨Ao, co, rfl⟩ := hR.slice; replace S := Aside0.mk (S.out.addOp hb hR); clear hb hR) | (go_at_call 64; (with_reducible refine (clone_any a _ _ (HA.out.below S.out.below) fa.len).mono ?_); rintro e w7 ⟨v, rfl, hR, hb⟩; obtain ⟨Ap, cp, rfl⟩ := hR.slice; replace S := Aside0.mk (S.out.addOp hb hR); clear hb hR))
     (refine rg_start (n := 5) (fun W => St w W _ _) [] S.out (fun _ h => h.drew) ?_; clear S; intro _ S; refine ld_ 0 1 S ?_; refine ld_ 1 0 S ?_; refine re_ (rc_ 2 ?_ AllReadyL.nil); intro K hK; refine ks_ 1 S ?_; intro _ S'; refine hK.out _ _ S' ?_; clear S S' hK K; intro S; refine re_ (rc_ 3 ?_ AllReadyL.nil); intro K hK; refine ks_ 0 S ?_; intro _ S'; refine hK.out _ _ S' ?_; clear S S' hK K; intro S; refine pu_ 4 ?_; refine done_ (by kernel_rfl) ?_)
     go_wp2
     exact bodyPost_ret (results_cct rfl _ _ _ _ 41 41 _ _ (0, 0) (0, 0) _ _ rfl (S.at_ 1 rfl) Tryd.underlying41 rfl (by kernel_rfl) rfl (S.at_ 0 rfl) Tryd.underlying41 rfl (by kernel_rfl)) rfl ⟨_, _, rfl, S.now.1.2, S.now.2, S.below⟩
 have q1 : (a.f0.f1 == 4) = false := by simpa using hq1
 clear hq hq1
 by_cases kb : b.f0.f1 = 1
 case neg =>
  rw [if_neg (fun h => kb h.1), if_neg (fun h => kb h.1)]
  have gb : (b.f0.f1 == 1) = false := beq_eq_false_iff_ne.mpr kb
  clear kb
  go_enter Tryd.func62, Tryd.ntmps62
  go_wp2_with (first | ((with_reducible refine gate_box rfl ?_); refine ev_box S ?_; clear S; intro _ _ S) | ((with_reducible refine gate_new rfl ?_); refine ev_new S 41 zA ?_; clear S; intro _ _ S) | ((with_reducible refine gate_load rfl ?_); first | refine ev_load S ?_ | refine ev_fld S ?_) | ((with_reducible refine gate_st rfl ?_); refine ev_store S ?_; clear S; intro _ S) | (go_at_call 75; (with_reducible refine (exclude_any b a _ _ rb _ (GW.below HG.out S.out.below) (HB.out.below S.out.below) (HA.out.below S.out.below) fb.len fb.at_ fa.at_ fb.wid fa.wid HT.out).mono ?_); rintro e w7 ⟨v, rfl, hR, hb⟩; obtain ⟨Ao, co, rfl⟩ := hR.slice; replace S := Aside0.mk (S.out.addOp hb hR); clear hb hR) | (go_at_call 64; (with_reducible refine (clone_any a _ _ (HA.out.below S.out.below) fa.len).mono ?_); rintro e w7 ⟨v, rfl, hR, hb⟩; obtain ⟨Ap, cp, rfl⟩ := hR.slice; replace S := Aside0.mk (S.out.addOp hb hR); clear hb hR))
  (refine rg_start (n := 5) (fun W => St w W _ _) [] S.out (fun _ h => h.drew) ?_; clear S; intro _ S; refine ld_ 0 1 S ?_; refine ld_ 1 0 S ?_; refine re_ (rc_ 2 ?_ AllReadyL.nil); intro K hK; refine ks_ 1 S ?_; intro _ S'; refine hK.out _ _ S' ?_; clear S S' hK K; intro S; refine re_ (rc_ 3 ?_ AllReadyL.nil); intro K hK; refine ks_ 0 S ?_; intro _ S'; refine hK.out _ _ S' ?_; clear S S' hK K; intro S; refine pu_ 4 ?_; refine done_ (by kernel_rfl) ?_)
  go_wp2
  exact bodyPost_ret (results_cct rfl _ _ _ _ 41 41 _ _ (0, 0) (0, 0) _ _ rfl (S.at_ 1 rfl) Tryd.underlying41 rfl (by kernel_rfl) rfl (S.at_ 0 rfl) Tryd.underlying41 rfl (by kernel_rfl)) rfl ⟨_, _, rfl, S.now.1.2, S.now.2, S.below⟩
 have gb : (b.f0.f1 == 1) = true := beq_iff_eq.mpr kb
 by_cases ka : a.f0.f1 = 1
 · have g1 : (a.f0.f1 == 1) = true := beq_iff_eq.mpr ka
   have g2 : (a.f0.f1 == 2) = false := by simp [ka]
   have g3 : (a.f0.f1 == 3) = false := by simp [ka]
   by_cases hle : b.f1 ≤ a.f1
   · rw [if_pos ⟨kb, ka, hle⟩]
     have hle' : decide (b.f1 ≤ a.f1) = true := decide_eq_true hle
     have hwr := show IntKind.i64.wrap (a.f1 + wid b) = a.f1 + wid b from IntWalk.i64_in _ (by have := fa.at_; have := fb.wid; omega)
     have HM := Aside0.mk (show (-4611686018427387904 ≤ a.f1 + wid b ∧ a.f1 + wid b ≤ 4611686018427387904) ∧ (-4611686018427387904 ≤ wid a ∧ wid a ≤ 4611686018427387000) by have := fa.at_; have := fb.wid; have := fa.wid; omega)
     clear hle ka kb
     by_cases hm : (moveE a (a.f1 + wid b)).2 = 0
     · rw [if_neg (fun h => h hm)]
       have hm' : ((moveE a (a.f1 + wid b)).2 != 0) = false := bne_eq_false_iff_eq.mpr hm
       clear hm
       go_enter Tryd.func62, Tryd.ntmps62
       go_wp2_with (first | ((with_reducible refine gate_box rfl ?_); refine ev_box S ?_; clear S; intro _ _ S) | ((with_reducible refine gate_new rfl ?_); refine ev_new S 41 zA ?_; clear S; intro _ _ S) | ((with_reducible refine gate_load rfl ?_); first | refine ev_load S ?_ | refine ev_fld S ?_) | ((with_reducible refine gate_st rfl ?_); refine ev_store S ?_; clear S; intro _ S) | (go_at_call 75; (with_reducible refine (exclude_any b a _ _ rb _ (GW.below HG.out S.out.below) (HB.out.below S.out.below) (HA.out.below S.out.below) fb.len fb.at_ fa.at_ fb.wid fa.wid HT.out).mono ?_); rintro e w7 ⟨v, rfl, hR, hb⟩; obtain ⟨Ao, co, rfl⟩ := hR.slice; replace S := Aside0.mk (S.out.addOp hb hR); clear hb hR) | (go_at_call 64; (with_reducible refine (clone_any a _ _ (HA.out.below S.out.below) fa.len).mono ?_); rintro e w7 ⟨v, rfl, hR, hb⟩; obtain ⟨Ap, cp, rfl⟩ := hR.slice; replace S := Aside0.mk (S.out.addOp hb hR); clear hb hR))
       (refine rg_start (n := 12) (fun W => St w W _ _) [10] S.out (fun _ h => h.drew) ?_; clear S; intro _ S; refine ld_ 0 0 S ?_; refine pu_ 1 ?_; refine fl_ 2 3 S ?_; refine ld_ 3 2 S ?_; refine cl_ 4 #[.agg (opA b (.slice B b.f3.length d))] ?_ Tryd.func53; refine (width_any b _ _ (GW.below HG.out S.below) (HB.out.below S.below)).mono ?_; rintro e w7 ⟨rfl, hb⟩; refine ⟨_, rfl, S.step hb, fun S' => ?_⟩; clear S hb; have S := S'; clear S'; refine nr_ ?_; refine pu_ 5 ?_; refine cl_ 6 #[.agg (opA a (.slice Ap a.f3.length cp)), .int .i64 (a.f1 + wid b)] ?_ Tryd.func72; refine (moved_any a _ (a.f1 + wid b) _ (GW.below HG.out S.below) S.now.2.C HM.out.1 HM.out.2).mono ?_; rintro e w7 ⟨v, rfl, hR, hb⟩; obtain ⟨Ai, ci, rfl⟩ := hR.slice; refine ⟨_, rfl, S.step hb, fun _ => ?_⟩; have S' := S.addOp hb hR; clear S hb hR; have S := S'; clear S'; refine nr_ ?_; refine pu_ 7 ?_; refine pu_ 8 ?_; refine pu_ 9 ?_; refine so_ 10 0 S ?_; clear S; intro _ S; refine pu_ 11 ?_; refine done_ (by kernel_rfl) ?_; have S := Aside0.mk S)
       go_wp2_with (fail)
       (refine rg_start (n := 5) (fun W => St w W _ _) [] S.out (fun _ h => h.drew) ?_; clear S; intro _ S; refine ld_ 0 1 S ?_; refine ld_ 1 0 S ?_; refine re_ (rc_ 2 ?_ AllReadyL.nil); intro K hK; refine ks_ 1 S ?_; intro _ S'; refine hK.out _ _ S' ?_; clear S S' hK K; intro S; refine re_ (rc_ 3 ?_ AllReadyL.nil); intro K hK; refine ks_ 0 S ?_; intro _ S'; refine hK.out _ _ S' ?_; clear S S' hK K; intro S; refine pu_ 4 ?_; refine done_ (by kernel_rfl) ?_)
       go_wp2
       exact bodyPost_ret (results_cct rfl _ _ _ _ 41 41 _ _ (0, 0) (0, 0) _ _ rfl (S.at_ 1 rfl) Tryd.underlying41 rfl (by kernel_rfl) rfl (S.at_ 0 rfl) Tryd.underlying41 rfl (by kernel_rfl)) rfl ⟨_, _, rfl, S.now.1.1.2, S.now.2, S.below⟩
     · rw [if_pos hm]
       have hm' : ((moveE a (a.f1 + wid b)).2 != 0) = true := bne_iff_ne.mpr hm
       clear hm
       go_enter Tryd.func62, Tryd.ntmps62
       go_wp2_with (first | ((with_reducible refine gate_box rfl ?_); refine ev_box S ?_; clear S; intro _ _ S) | ((with_reducible refine gate_new rfl ?_); refine ev_new S 41 zA ?_; clear S; intro _ _ S) | ((with_reducible refine gate_load rfl ?_); first | refine ev_load S ?_ | refine ev_fld S ?_) | ((with_reducible refine gate_st rfl ?_); refine ev_store S ?_; clear S; intro _ S) | (go_at_call 75; (with_reducible refine (exclude_any b a _ _ rb _ (GW.below HG.out S.out.below) (HB.out.below S.out.below) (HA.out.below S.out.below) fb.len fb.at_ fa.at_ fb.wid fa.wid HT.out).mono ?_); rintro e w7 ⟨v, rfl, hR, hb⟩; obtain ⟨Ao, co, rfl⟩ := hR.slice; replace S := Aside0.mk (S.out.addOp hb hR); clear hb hR) | (go_at_call 64; (with_reducible refine (clone_any a _ _ (HA.out.below S.out.below) fa.len).mono ?_); rintro e w7 ⟨v, rfl, hR, hb⟩; obtain ⟨Ap, cp, rfl⟩ := hR.slice; replace S := Aside0.mk (S.out.addOp hb hR); clear hb hR))
       (refine rg_start (n := 12) (fun W => St w W _ _) [10] S.out (fun _ h => h.drew) ?_; clear S; intro _ S; refine ld_ 0 0 S ?_; refine pu_ 1 ?_; refine fl_ 2 3 S ?_; refine ld_ 3 2 S ?_; refine cl_ 4 #[.agg (opA b (.slice B b.f3.length d))] ?_ Tryd.func53; refine (width_any b _ _ (GW.below HG.out S.below) (HB.out.below S.below)).mono ?_; rintro e w7 ⟨rfl, hb⟩; refine ⟨_, rfl, S.step hb, fun S' => ?_⟩; clear S hb; have S := S'; clear S'; refine nr_ ?_; refine pu_ 5 ?_; refine cl_ 6 #[.agg (opA a (.slice Ap a.f3.length cp)), .int .i64 (a.f1 + wid b)] ?_ Tryd.func72; refine (moved_any a _ (a.f1 + wid b) _ (GW.below HG.out S.below) S.now.2.C HM.out.1 HM.out.2).mono ?_; rintro e w7 ⟨v, rfl, hR, hb⟩; obtain ⟨Ai, ci, rfl⟩ := hR.slice; refine ⟨_, rfl, S.step hb, fun _ => ?_⟩; have S' := S.addOp hb hR; clear S hb hR; have S := S'; clear S'; refine nr_ ?_; refine pu_ 7 ?_; refine pu_ 8 ?_; refine pu_ 9 ?_; refine so_ 10 0 S ?_; clear S; intro _ S; refine pu_ 11 ?_; refine done_ (by kernel_rfl) ?_; have S := Aside0.mk S)
       go_wp2_with (((with_reducible refine gate_st rfl ?_); refine ev_store S ?_; clear S; intro _ S))
       exact bodyPost_ret (results_cct rfl _ _ _ _ 41 41 zA zA (0, 0) (0, 0) _ _ rfl (S.out.at_ 1 rfl) Tryd.underlying41 rfl (by kernel_rfl) rfl (S.out.at_ 0 rfl) Tryd.underlying41 rfl (by kernel_rfl)) rfl ⟨.slice none 0 0, .slice none 0 0, rfl, opR_nil _ _, opR_nil _ _, S.out.below⟩
   · rw [if_neg (fun h => hle h.2.2), if_neg (show ¬ (b.f0.f1 = 1 ∧ (a.f0.f1 = 2 ∨ a.f0.f1 = 3)) by omega)]
     have hle' : decide (b.f1 ≤ a.f1) = false := decide_eq_false hle
     clear hle ka kb
     go_enter Tryd.func62, Tryd.ntmps62
     go_wp2_with (first | ((with_reducible refine gate_box rfl ?_); refine ev_box S ?_; clear S; intro _ _ S) | ((with_reducible refine gate_new rfl ?_); refine ev_new S 41 zA ?_; clear S; intro _ _ S) | ((with_reducible refine gate_load rfl ?_); first | refine ev_load S ?_ | refine ev_fld S ?_) | ((with_reducible refine gate_st rfl ?_); refine ev_store S ?_; clear S; intro _ S) | (go_at_call 75; (with_reducible refine (exclude_any b a _ _ rb _ (GW.below HG.out S.out.below) (HB.out.below S.out.below) (HA.out.below S.out.below) fb.len fb.at_ fa.at_ fb.wid fa.wid HT.out).mono ?_); rintro e w7 ⟨v, rfl, hR, hb⟩; obtain ⟨Ao, co, rfl⟩ := hR.slice; replace S := Aside0.mk (S.out.addOp hb hR); clear hb hR) | (go_at_call 64; (with_reducible refine (clone_any a _ _ (HA.out.below S.out.below) fa.len).mono ?_); rintro e w7 ⟨v, rfl, hR, hb⟩; obtain ⟨Ap, cp, rfl⟩ := hR.slice; replace S := Aside0.mk (S.out.addOp hb hR); clear hb hR))
     (refine rg_start (n := 5) (fun W => St w W _ _) [] S.out (fun _ h => h.drew) ?_; clear S; intro _ S; refine ld_ 0 1 S ?_; refine ld_ 1 0 S ?_; refine re_ (rc_ 2 ?_ AllReadyL.nil); intro K hK; refine ks_ 1 S ?_; intro _ S'; refine hK.out _ _ S' ?_; clear S S' hK K; intro S; refine re_ (rc_ 3 ?_ AllReadyL.nil); intro K hK; refine ks_ 0 S ?_; intro _ S'; refine hK.out _ _ S' ?_; clear S S' hK K; intro S; refine pu_ 4 ?_; refine done_ (by kernel_rfl) ?_)
     go_wp2
     exact bodyPost_ret (results_cct rfl _ _ _ _ 41 41 _ _ (0, 0) (0, 0) _ _ rfl (S.at_ 1 rfl) Tryd.underlying41 rfl (by kernel_rfl) rfl (S.at_ 0 rfl) Tryd.underlying41 rfl (by kernel_rfl)) rfl ⟨_, _, rfl, S.now.1.2, S.now.2, S.below⟩
 · have g1 : (a.f0.f1 == 1) = false := beq_eq_false_iff_ne.mpr ka
   rw [if_neg (fun h => ka h.2.1)]
   by_cases kh : a.f0.f1 = 2 ∨ a.f0.f1 = 3
   · rw [if_pos ⟨kb, kh⟩]
     have g23 : (a.f0.f1 == 2) = true ∨ (a.f0.f1 == 2) = false ∧ (a.f0.f1 == 3) = true := by
      rcases kh with h | h
      · exact .inl (by simp [h])
      · exact .inr ⟨by simp [h], by simp [h]⟩
     clear ka kb kh
     by_cases hm : (incP a b false ra).2 = 0
     · rw [if_neg (fun h => h hm)]
       have hm' : ((incP a b false ra).2 != 0) = false := bne_eq_false_iff_eq.mpr hm
       clear hm
       rcases g23 with g2 | ⟨g2, g3⟩
       all_goals
        go_enter Tryd.func62, Tryd.ntmps62
        go_wp2_with (first | ((with_reducible refine gate_box rfl ?_); refine ev_box S ?_; clear S; intro _ _ S) | ((with_reducible refine gate_new rfl ?_); refine ev_new S 41 zA ?_; clear S; intro _ _ S) | ((with_reducible refine gate_load rfl ?_); first | refine ev_load S ?_ | refine ev_fld S ?_) | ((with_reducible refine gate_st rfl ?_); refine ev_store S ?_; clear S; intro _ S) | (go_at_call 75; (with_reducible refine (exclude_any b a _ _ rb _ (GW.below HG.out S.out.below) (HB.out.below S.out.below) (HA.out.below S.out.below) fb.len fb.at_ fa.at_ fb.wid fa.wid HT.out).mono ?_); rintro e w7 ⟨v, rfl, hR, hb⟩; obtain ⟨Ao, co, rfl⟩ := hR.slice; replace S := Aside0.mk (S.out.addOp hb hR); clear hb hR) | (go_at_call 64; (with_reducible refine (clone_any a _ _ (HA.out.below S.out.below) fa.len).mono ?_); rintro e w7 ⟨v, rfl, hR, hb⟩; obtain ⟨Ap, cp, rfl⟩ := hR.slice; replace S := Aside0.mk (S.out.addOp hb hR); clear hb hR) | (go_at_call 56; (with_reducible refine (include_any a b false _ _ ra _ (GW.below HG.out S.out.below) (HA.out.below S.out.below) (HB.out.below S.out.below) fa.len fa.at_ fa.wid fb.wid HU.out).mono ?_); rintro e w7 ⟨v, rfl, hR, hb⟩; obtain ⟨Ai, ci, rfl⟩ := hR.slice; replace S := Aside0.mk (S.out.addOp hb hR); clear hb hR))
        (refine rg_start (n := 5) (fun W => St w W _ _) [] S.out (fun _ h => h.drew) ?_; clear S; intro _ S; refine ld_ 0 1 S ?_; refine ld_ 1 0 S ?_; refine re_ (rc_ 2 ?_ AllReadyL.nil); intro K hK; refine ks_ 1 S ?_; intro _ S'; refine hK.out _ _ S' ?_; clear S S' hK K; intro S; refine re_ (rc_ 3 ?_ AllReadyL.nil); intro K hK; refine ks_ 0 S ?_; intro _ S'; refine hK.out _ _ S' ?_; clear S S' hK K; intro S; refine pu_ 4 ?_; refine done_ (by kernel_rfl) ?_)
        go_wp2
        exact bodyPost_ret (results_cct rfl _ _ _ _ 41 41 _ _ (0, 0) (0, 0) _ _ rfl (S.at_ 1 rfl) Tryd.underlying41 rfl (by kernel_rfl) rfl (S.at_ 0 rfl) Tryd.underlying41 rfl (by kernel_rfl)) rfl ⟨_, _, rfl, S.now.1.1.2, S.now.2, S.below⟩
     · rw [if_pos hm]
       have hm' : ((incP a b false ra).2 != 0) = true := bne_iff_ne.mpr hm
       clear hm
       rcases g23 with g2 | ⟨g2, g3⟩
       all_goals
        go_enter Tryd.func62, Tryd.ntmps62
        go_wp2_with (first | ((with_reducible refine gate_box rfl ?_); refine ev_box S ?_; clear S; intro _ _ S) | ((with_reducible refine gate_new rfl ?_); refine ev_new S 41 zA ?_; clear S; intro _ _ S) | ((with_reducible refine gate_load rfl ?_); first | refine ev_load S ?_ | refine ev_fld S ?_) | ((with_reducible refine gate_st rfl ?_); refine ev_store S ?_; clear S; intro _ S) | (go_at_call 75; (with_reducible refine (exclude_any b a _ _ rb _ (GW.below HG.out S.out.below) (HB.out.below S.out.below) (HA.out.below S.out.below) fb.len fb.at_ fa.at_ fb.wid fa.wid HT.out).mono ?_); rintro e w7 ⟨v, rfl, hR, hb⟩; obtain ⟨Ao, co, rfl⟩ := hR.slice; replace S := Aside0.mk (S.out.addOp hb hR); clear hb hR) | (go_at_call 64; (with_reducible refine (clone_any a _ _ (HA.out.below S.out.below) fa.len).mono ?_); rintro e w7 ⟨v, rfl, hR, hb⟩; obtain ⟨Ap, cp, rfl⟩ := hR.slice; replace S := Aside0.mk (S.out.addOp hb hR); clear hb hR) | (go_at_call 56; (with_reducible refine (include_any a b false _ _ ra _ (GW.below HG.out S.out.below) (HA.out.below S.out.below) (HB.out.below S.out.below) fa.len fa.at_ fa.wid fb.wid HU.out).mono ?_); rintro e w7 ⟨v, rfl, hR, hb⟩; obtain ⟨Ai, ci, rfl⟩ := hR.slice; replace S := Aside0.mk (S.out.addOp hb hR); clear hb hR))
        exact bodyPost_ret (results_cct rfl _ _ _ _ 41 41 zA zA (0, 0) (0, 0) _ _ rfl (S.out.at_ 1 rfl) Tryd.underlying41 rfl (by kernel_rfl) rfl (S.out.at_ 0 rfl) Tryd.underlying41 rfl (by kernel_rfl)) rfl ⟨.slice none 0 0, .slice none 0 0, rfl, opR_nil _ _, opR_nil _ _, S.out.below⟩
   · rw [if_neg (fun h => kh h.2)]
     have g2 : (a.f0.f1 == 2) = false := beq_eq_false_iff_ne.mpr (fun h => kh (.inl h))
     have g3 : (a.f0.f1 == 3) = false := beq_eq_false_iff_ne.mpr (fun h => kh (.inr h))
     clear ka kb kh
     go_enter Tryd.func62, Tryd.ntmps62
     go_wp2_with (first | ((with_reducible refine gate_box rfl ?_); refine ev_box S ?_; clear S; intro _ _ S) | ((with_reducible refine gate_new rfl ?_); refine ev_new S 41 zA ?_; clear S; intro _ _ S) | ((with_reducible refine gate_load rfl ?_); first | refine ev_load S ?_ | refine ev_fld S ?_) | ((with_reducible refine gate_st rfl ?_); refine ev_store S ?_; clear S; intro _ S) | (go_at_call 75; (with_reducible refine (exclude_any b a _ _ rb _ (GW.below HG.out S.out.below) (HB.out.below S.out.below) (HA.out.below S.out.below) fb.len fb.at_ fa.at_ fb.wid fa.wid HT.out).mono ?_); rintro e w7 ⟨v, rfl, hR, hb⟩; obtain ⟨Ao, co, rfl⟩ := hR.slice; replace S := Aside0.mk (S.out.addOp hb hR); clear hb hR) | (go_at_call 64; (with_reducible refine (clone_any a _ _ (HA.out.below S.out.below) fa.len).mono ?_); rintro e w7 ⟨v, rfl, hR, hb⟩; obtain ⟨Ap, cp, rfl⟩ := hR.slice; replace S := Aside0.mk (S.out.addOp hb hR); clear hb hR))
     (refine rg_start (n := 5) (fun W => St w W _ _) [] S.out (fun _ h => h.drew) ?_; clear S; intro _ S; refine ld_ 0 1 S ?_; refine ld_ 1 0 S ?_; refine re_ (rc_ 2 ?_ AllReadyL.nil); intro K hK; refine ks_ 1 S ?_; intro _ S'; refine hK.out _ _ S' ?_; clear S S' hK K; intro S; refine re_ (rc_ 3 ?_ AllReadyL.nil); intro K hK; refine ks_ 0 S ?_; intro _ S'; refine hK.out _ _ S' ?_; clear S S' hK K; intro S; refine pu_ 4 ?_; refine done_ (by kernel_rfl) ?_)
     go_wp2
     exact bodyPost_ret (results_cct rfl _ _ _ _ 41 41 _ _ (0, 0) (0, 0) _ _ rfl (S.at_ 1 rfl) Tryd.underlying41 rfl (by kernel_rfl) rfl (S.at_ 0 rfl) Tryd.underlying41 rfl (by kernel_rfl)) rfl ⟨_, _, rfl, S.now.1.2, S.now.2, S.below⟩
end Go.Proofs.YtloccjkcmlkifaaDoor
end

section
/- Transpose, as both sides have it; the program's. -/
namespace Go.Proofs.YtloccjkcmlkifaaDoor
open Go.RowKit Go.Proofs.YtloccjkcmlkifaaDoor.PAll Go.Proofs.YtloccjkcmlkifaaDoorW.PrintWords

def trE (a b : S41) : S41 × S41 × Int :=
 if (excE b a).2 ≠ 0 then (z41, z41, (excE b a).2)
 else if trClash a b = true then (z41, z41, 50)
 else if b.f0.f1 = 1 ∧ a.f0.f1 = 1 ∧ b.f1 ≤ a.f1 then (if (moveE a (a.f1 + wid b)).2 ≠ 0 then (z41, z41, (moveE a (a.f1 + wid b)).2) else ((excE b a).1, (moveE a (a.f1 + wid b)).1, 0))
 else if b.f0.f1 = 1 ∧ (a.f0.f1 = 2 ∨ a.f0.f1 = 3) then (if (incE a b false).2 ≠ 0 then (z41, z41, (incE a b false).2) else ((excE b a).1, (incE a b false).1, 0))
 else ((excE b a).1, a, 0)
theorem trE_prog (a b : S41) (va vb : Value) (w : World) (hG : GW w) (ha : OpC w va a) (hb : OpC w vb b) (ga : Good a) (gb : Good b) :
 Calls Tryd.prog 62 #[.agg (opA a va), .agg (opA b vb)] w (RetOp2 w (trE a b)) := by
 obtain ⟨rb, h, e⟩ := exc_r gb ga
 have et : trP a b rb (thrE a.f3 b.f1 (wid b)) = trE a b := by
  unfold trP trE
  rw [e]
  rfl
 rw [← et]
 exact transpose_any a b va vb rb _ w hG ha hb ga.fit gb.fit h fun h1 h2 => by
  have hb1 := gb.wid1 h2
  exact through_is a.f3 b.f1 (wid b) (ga.rng h1) ⟨hb1.2.2.1, by omega⟩ ⟨hb1.1, by omega⟩ (last_bound (ga.rng h1))
end Go.Proofs.YtloccjkcmlkifaaDoor
end

section
/- Include, Exclude, Transpose of the program, told of whole operations. -/
namespace Go.Proofs.YtloccjkcmlkifaaDoor
open Go.RowKit Go.Proofs.YtloccjkcmlkifaaDoor.PAll Go.Proofs.YtloccjkcmlkifaaDoorW.PrintWords Go.Proofs.YtloccjkcmlkifaaDoorW.PrintLast

def wrap1 (a b : S41) (r : S41 × Int) : S41 × Int := if ownsE [a, b] = 0 then r else (z41, ownsE [a, b])
def wrap2 (a b : S41) (r : S41 × S41 × Int) : S41 × S41 × Int := if ownsE [a, b] = 0 then r else (z41, z41, ownsE [a, b])
theorem owns_goods {a b : S41} (h : ownsE [a, b] = 0) (fa : fineOp a) (fb : fineOp b) : Good a ∧ Good b :=
 have g := owns_good h (by intro x hx; simp only [List.mem_cons, List.not_mem_nil, or_false] at hx; rcases hx with rfl | rfl <;> assumption)
 ⟨g a (by simp), g b (by simp)⟩
set_option maxRecDepth 100000 in
set_option maxHeartbeats 4000000 in
theorem Include_any (a b : S41) (e : Bool) (va vb : Value) (w : World) (hG : GW w) (ha : OpC w va a) (hb : OpC w vb b) (fa : fineOp a) (fb : fineOp b) :
 Calls Tryd.prog 26 #[.agg (opA a va), .agg (opA b vb), .bool e] w (RetOp w (wrap1 a b (incE a b e))) := by
 obtain ⟨A, c, rfl, h1, h2⟩ := ha
 obtain ⟨B, d, rfl, h3, h4⟩ := hb
 have S := Aside0.mk (St.init w (F := fun _ => True) (fun _ _ => trivial))
 have HA := Aside0.mk (opC_mk h1 h2); have HB := Aside0.mk (opC_mk h3 h4)
 have HG := Aside0.mk hG
 have HF := Aside0.mk (show ∀ x ∈ [a, b], fineOp x by intro x hx; simp only [List.mem_cons, List.not_mem_nil, or_false] at hx; rcases hx with rfl | rfl <;> assumption)
 have HLE := Aside0.mk (show [a, b].length ≤ 1048576 by simp)
 unfold wrap1
 clear h1 h2 h3 h4 hG
 by_cases h : ownsE [a, b] = 0
 · rw [if_pos h]
   have HX := Aside0.mk (owns_goods h fa fb)
   have h' : (ownsE [a, b] != 0) = false := bne_eq_false_iff_eq.mpr h
   clear h fa fb
   go_enter Tryd.func26, Tryd.ntmps26
   go_wp2_with (first | ((with_reducible refine gate_box rfl ?_); refine ev_box S ?_; clear S; intro _ _ S) | ((with_reducible refine gate_new rfl ?_); refine ev_new S 41 zA ?_; clear S; intro _ _ S) | ((with_reducible refine gate_load rfl ?_); refine ev_load S ?_) | ((with_reducible refine gate_lit rfl ?_); refine ev_lit S (opA a (.slice A a.f3.length c) ++ opA b (.slice B b.f3.length d)) 2 ?_; clear S; intro _ _ S) | (go_at_call 55; (with_reducible refine (owns_any [a, b] _ _ (GW.below HG.out S.out.below) (runC_box2 (S.out.at_ 0 rfl) (HA.out.below S.out.below) (HB.out.below S.out.below)) HF.out HLE.out).mono ?_); rintro e_ w7 ⟨rfl, hb⟩; replace S := Aside0.mk (S.out.step hb); clear hb) | ((with_reducible refine gate_st rfl ?_); refine ev_store S ?_; clear S; intro _ S) | (go_at_call 56; (with_reducible refine (incE_prog a b e _ _ _ (GW.below HG.out S.out.below) (HA.out.below S.out.below) (HB.out.below S.out.below) HX.out.1 HX.out.2).mono ?_); rintro e_ w7 ⟨v, rfl, hR, hb⟩; obtain ⟨Ai, ci, rfl⟩ := hR.slice; replace S := Aside0.mk (S.out.addOp hb hR); clear hb hR))
   exact bodyPost_ret (results_ct rfl _ _ _ 41 _ (0, 0) _ rfl (S.out.at_ 1 rfl) Tryd.underlying41 rfl (by kernel_rfl)) rfl ⟨_, rfl, S.out.now.2, S.out.below⟩
 · rw [if_neg h]
   have h' : (ownsE [a, b] != 0) = true := bne_iff_ne.mpr h
   have HX : Aside0 (Good a ∧ Good b → True) := ⟨fun _ => trivial⟩
   clear h fa fb
   go_enter Tryd.func26, Tryd.ntmps26
   go_wp2_with (first | ((with_reducible refine gate_box rfl ?_); refine ev_box S ?_; clear S; intro _ _ S) | ((with_reducible refine gate_new rfl ?_); refine ev_new S 41 zA ?_; clear S; intro _ _ S) | ((with_reducible refine gate_load rfl ?_); refine ev_load S ?_) | ((with_reducible refine gate_lit rfl ?_); refine ev_lit S (opA a (.slice A a.f3.length c) ++ opA b (.slice B b.f3.length d)) 2 ?_; clear S; intro _ _ S) | (go_at_call 55; (with_reducible refine (owns_any [a, b] _ _ (GW.below HG.out S.out.below) (runC_box2 (S.out.at_ 0 rfl) (HA.out.below S.out.below) (HB.out.below S.out.below)) HF.out HLE.out).mono ?_); rintro e_ w7 ⟨rfl, hb⟩; replace S := Aside0.mk (S.out.step hb); clear hb) | ((with_reducible refine gate_st rfl ?_); refine ev_store S ?_; clear S; intro _ S))
   exact bodyPost_ret (results_ct rfl _ _ _ 41 zA (0, 0) _ rfl (S.out.at_ 1 rfl) Tryd.underlying41 rfl (by kernel_rfl)) rfl ⟨.slice none 0 0, rfl, opR_nil _ _, S.out.below⟩
set_option maxRecDepth 100000 in
set_option maxHeartbeats 4000000 in
theorem Exclude_any (a b : S41) (va vb : Value) (w : World) (hG : GW w) (ha : OpC w va a) (hb : OpC w vb b) (fa : fineOp a) (fb : fineOp b) :
 Calls Tryd.prog 58 #[.agg (opA a va), .agg (opA b vb)] w (RetOp w (wrap1 a b (excE a b))) := by
 obtain ⟨A, c, rfl, h1, h2⟩ := ha
 obtain ⟨B, d, rfl, h3, h4⟩ := hb
 have S := Aside0.mk (St.init w (F := fun _ => True) (fun _ _ => trivial))
 have HA := Aside0.mk (opC_mk h1 h2); have HB := Aside0.mk (opC_mk h3 h4)
 have HG := Aside0.mk hG
 have HF := Aside0.mk (show ∀ x ∈ [a, b], fineOp x by intro x hx; simp only [List.mem_cons, List.not_mem_nil, or_false] at hx; rcases hx with rfl | rfl <;> assumption)
 have HLE := Aside0.mk (show [a, b].length ≤ 1048576 by simp)
 unfold wrap1
 clear h1 h2 h3 h4 hG
 by_cases h : ownsE [a, b] = 0
 · rw [if_pos h]
   have HX := Aside0.mk (owns_goods h fa fb)
   have h' : (ownsE [a, b] != 0) = false := bne_eq_false_iff_eq.mpr h
   clear h fa fb
   go_enter Tryd.func58, Tryd.ntmps58
   go_wp2_with (first | ((with_reducible refine gate_box rfl ?_); refine ev_box S ?_; clear S; intro _ _ S) | ((with_reducible refine gate_new rfl ?_); refine ev_new S 41 zA ?_; clear S; intro _ _ S) | ((with_reducible refine gate_load rfl ?_); refine ev_load S ?_) | ((with_reducible refine gate_lit rfl ?_); refine ev_lit S (opA a (.slice A a.f3.length c) ++ opA b (.slice B b.f3.length d)) 2 ?_; clear S; intro _ _ S) | (go_at_call 55; (with_reducible refine (owns_any [a, b] _ _ (GW.below HG.out S.out.below) (runC_box2 (S.out.at_ 0 rfl) (HA.out.below S.out.below) (HB.out.below S.out.below)) HF.out HLE.out).mono ?_); rintro e_ w7 ⟨rfl, hb⟩; replace S := Aside0.mk (S.out.step hb); clear hb) | ((with_reducible refine gate_st rfl ?_); refine ev_store S ?_; clear S; intro _ S) | (go_at_call 75; (with_reducible refine (excE_prog a b _ _ _ (GW.below HG.out S.out.below) (HA.out.below S.out.below) (HB.out.below S.out.below) HX.out.1 HX.out.2).mono ?_); rintro e_ w7 ⟨v, rfl, hR, hb⟩; obtain ⟨Ai, ci, rfl⟩ := hR.slice; replace S := Aside0.mk (S.out.addOp hb hR); clear hb hR))
   exact bodyPost_ret (results_ct rfl _ _ _ 41 _ (0, 0) _ rfl (S.out.at_ 1 rfl) Tryd.underlying41 rfl (by kernel_rfl)) rfl ⟨_, rfl, S.out.now.2, S.out.below⟩
 · rw [if_neg h]
   have h' : (ownsE [a, b] != 0) = true := bne_iff_ne.mpr h
   have HX : Aside0 (Good a ∧ Good b → True) := ⟨fun _ => trivial⟩
   clear h fa fb
   go_enter Tryd.func58, Tryd.ntmps58
   go_wp2_with (first | ((with_reducible refine gate_box rfl ?_); refine ev_box S ?_; clear S; intro _ _ S) | ((with_reducible refine gate_new rfl ?_); refine ev_new S 41 zA ?_; clear S; intro _ _ S) | ((with_reducible refine gate_load rfl ?_); refine ev_load S ?_) | ((with_reducible refine gate_lit rfl ?_); refine ev_lit S (opA a (.slice A a.f3.length c) ++ opA b (.slice B b.f3.length d)) 2 ?_; clear S; intro _ _ S) | (go_at_call 55; (with_reducible refine (owns_any [a, b] _ _ (GW.below HG.out S.out.below) (runC_box2 (S.out.at_ 0 rfl) (HA.out.below S.out.below) (HB.out.below S.out.below)) HF.out HLE.out).mono ?_); rintro e_ w7 ⟨rfl, hb⟩; replace S := Aside0.mk (S.out.step hb); clear hb) | ((with_reducible refine gate_st rfl ?_); refine ev_store S ?_; clear S; intro _ S))
   exact bodyPost_ret (results_ct rfl _ _ _ 41 zA (0, 0) _ rfl (S.out.at_ 1 rfl) Tryd.underlying41 rfl (by kernel_rfl)) rfl ⟨.slice none 0 0, rfl, opR_nil _ _, S.out.below⟩
set_option maxRecDepth 100000 in
set_option maxHeartbeats 4000000 in
theorem Transpose_any (a b : S41) (va vb : Value) (w : World) (hG : GW w) (ha : OpC w va a) (hb : OpC w vb b) (fa : fineOp a) (fb : fineOp b) :
 Calls Tryd.prog 59 #[.agg (opA a va), .agg (opA b vb)] w (RetOp2 w (wrap2 a b (trE a b))) := by
 obtain ⟨A, c, rfl, h1, h2⟩ := ha
 obtain ⟨B, d, rfl, h3, h4⟩ := hb
 have S := Aside0.mk (St.init w (F := fun _ => True) (fun _ _ => trivial))
 have HA := Aside0.mk (opC_mk h1 h2); have HB := Aside0.mk (opC_mk h3 h4)
 have HG := Aside0.mk hG
 have HF := Aside0.mk (show ∀ x ∈ [a, b], fineOp x by intro x hx; simp only [List.mem_cons, List.not_mem_nil, or_false] at hx; rcases hx with rfl | rfl <;> assumption)
 have HLE := Aside0.mk (show [a, b].length ≤ 1048576 by simp)
 unfold wrap2
 clear h1 h2 h3 h4 hG
 by_cases h : ownsE [a, b] = 0
 · rw [if_pos h]
   have HX := Aside0.mk (owns_goods h fa fb)
   have h' : (ownsE [a, b] != 0) = false := bne_eq_false_iff_eq.mpr h
   clear h fa fb
   go_enter Tryd.func59, Tryd.ntmps59
   go_wp2_with (first | ((with_reducible refine gate_box rfl ?_); refine ev_box S ?_; clear S; intro _ _ S) | ((with_reducible refine gate_new rfl ?_); refine ev_new S 41 zA ?_; clear S; intro _ _ S) | ((with_reducible refine gate_load rfl ?_); refine ev_load S ?_) | ((with_reducible refine gate_lit rfl ?_); refine ev_lit S (opA a (.slice A a.f3.length c) ++ opA b (.slice B b.f3.length d)) 2 ?_; clear S; intro _ _ S) | (go_at_call 55; (with_reducible refine (owns_any [a, b] _ _ (GW.below HG.out S.out.below) (runC_box2 (S.out.at_ 0 rfl) (HA.out.below S.out.below) (HB.out.below S.out.below)) HF.out HLE.out).mono ?_); rintro e_ w7 ⟨rfl, hb⟩; replace S := Aside0.mk (S.out.step hb); clear hb) | ((with_reducible refine gate_st rfl ?_); refine ev_store S ?_; clear S; intro _ S) | (go_at_call 62; (with_reducible refine (trE_prog a b _ _ _ (GW.below HG.out S.out.below) (HA.out.below S.out.below) (HB.out.below S.out.below) HX.out.1 HX.out.2).mono ?_); rintro e_ w7 ⟨v, v2, rfl, hR, hR2, hb⟩; obtain ⟨Ai, ci, rfl⟩ := hR.slice; obtain ⟨Aj, cj, rfl⟩ := hR2.slice; replace S := Aside0.mk (S.out.addR2 hb hR hR2); clear hb hR hR2))
   exact bodyPost_ret (results_cct rfl _ _ _ _ 41 41 _ _ (0, 0) (0, 0) _ _ rfl (S.out.at_ 2 rfl) Tryd.underlying41 rfl (by kernel_rfl) rfl (S.out.at_ 1 rfl) Tryd.underlying41 rfl (by kernel_rfl)) rfl ⟨_, _, rfl, S.out.now.1.2, S.out.now.2, S.out.below⟩
 · rw [if_neg h]
   have h' : (ownsE [a, b] != 0) = true := bne_iff_ne.mpr h
   have HX : Aside0 (Good a ∧ Good b → True) := ⟨fun _ => trivial⟩
   clear h fa fb
   go_enter Tryd.func59, Tryd.ntmps59
   go_wp2_with (first | ((with_reducible refine gate_box rfl ?_); refine ev_box S ?_; clear S; intro _ _ S) | ((with_reducible refine gate_new rfl ?_); refine ev_new S 41 zA ?_; clear S; intro _ _ S) | ((with_reducible refine gate_load rfl ?_); refine ev_load S ?_) | ((with_reducible refine gate_lit rfl ?_); refine ev_lit S (opA a (.slice A a.f3.length c) ++ opA b (.slice B b.f3.length d)) 2 ?_; clear S; intro _ _ S) | (go_at_call 55; (with_reducible refine (owns_any [a, b] _ _ (GW.below HG.out S.out.below) (runC_box2 (S.out.at_ 0 rfl) (HA.out.below S.out.below) (HB.out.below S.out.below)) HF.out HLE.out).mono ?_); rintro e_ w7 ⟨rfl, hb⟩; replace S := Aside0.mk (S.out.step hb); clear hb) | ((with_reducible refine gate_st rfl ?_); refine ev_store S ?_; clear S; intro _ S))
   exact bodyPost_ret (results_cct rfl _ _ _ _ 41 41 zA zA (0, 0) (0, 0) _ _ rfl (S.out.at_ 2 rfl) Tryd.underlying41 rfl (by kernel_rfl) rfl (S.out.at_ 1 rfl) Tryd.underlying41 rfl (by kernel_rfl)) rfl ⟨.slice none 0 0, .slice none 0 0, rfl, opR_nil _ _, opR_nil _ _, S.out.below⟩
end Go.Proofs.YtloccjkcmlkifaaDoor
end

section
/- A step of kind 5 (Cross) is answered as the document says. -/
namespace Go.Proofs.YtloccjkcmlkifaaDoor
open Go.RowKit Go.Proofs.YtloccjkcmlkifaaDoor.PAll Go.Proofs.YtloccjkcmlkifaaDoorW.PrintWords Go.Proofs.YtloccjkcmlkifaaDoorW.PrintLast

theorem RunC.slice {w : World} {v : Value} {l : List S41} (h : RunC w v l) : ∃ A c, v = .slice A l.length c := by
 obtain ⟨A, c, e, _⟩ := h
 exact ⟨A, c, e⟩
theorem St.addRuns {w0 w w' : World} {bs : List Bx} {F : World → Prop} {v u : Value} {l m : List S41} (S : St w0 w bs F) (hb : Below w.heap.size w w') (h1 : RunR w' w.heap.size v l) (h2 : RunR w' w.heap.size u m) : St w0 w' bs (fun W => F W ∧ RunC W v l ∧ RunC W u m) := S.add hb (Foot.and h1 h2)
end Go.Proofs.YtloccjkcmlkifaaDoor
end

section
/- An insert as the statements make it. -/
namespace Go.Proofs.YtloccjkcmlkifaaDoor
open Go.RowKit Go.Proofs.YtloccjkcmlkifaaDoor.PAll Go.Proofs.YtloccjkcmlkifaaDoorW.PrintWords Go.Proofs.YtloccjkcmlkifaaDoorW.PrintLast

abbrev insO (c n at_ : Int) (t : ByteArray) : S41 := ⟨⟨⟨c, n⟩, 1⟩, at_, t, [], ⟨0, 0⟩, false⟩
theorem opC_nil (w : World) (o : S41) (h : o.f3 = []) : OpC w (.slice none 0 0) o := by
 have e : k94.C w none 0 [] := by
  have := (opR_nil w 0).C
  obtain ⟨A, c, e, _, h⟩ := this
  injection e with e1 _ _
  rw [← e1] at h; exact h
 exact ⟨none, 0, by rw [h]; rfl, by rw [h]; exact Nat.le_refl _, by rw [h]; exact e⟩
theorem ins_any (c n at_ : Int) (t : ByteArray) (w : World) : Calls Tryd.prog 25 #[.int .i64 c, .int .i64 n, .int .i64 at_, .string t] w fun e w' => e = .returned (.agg (opA (insO c n at_ t) (.slice none 0 0))) ∧ Below w.heap.size w w' := by
 have S := Aside0.mk (St.init w (F := fun _ => True) (fun _ _ => trivial))
 go_enter Tryd.func25, Tryd.ntmps25
 go_wp2_with (first | ((with_reducible refine gate_new rfl ?_); refine ev_new S 41 zA ?_; clear S; intro _ _ S) | ((with_reducible refine gate_st rfl ?_); refine ev_store S ?_; clear S; intro _ S))
 exact bodyPost_ret (results_cell_row rfl _ _ _ 41 _ (0, 0) _ rfl (S.out.at_ 0 rfl) Tryd.underlying41 rfl (by kernel_rfl)) rfl ⟨rfl, S.out.below⟩
end Go.Proofs.YtloccjkcmlkifaaDoor
end
