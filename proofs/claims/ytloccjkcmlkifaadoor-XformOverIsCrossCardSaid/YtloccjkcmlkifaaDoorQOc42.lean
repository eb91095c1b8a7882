/- XformOverIsCross_card, part 42. -/
import Derived.Test.YtloccjkcmlkifaaDoorQOc41

section
/- The document's own examples, played. -/
namespace Go.Proofs.YtloccjkcmlkifaaDoor
open Go.RowKit Go.Proofs.YtloccjkcmlkifaaDoor.PAll Go.Proofs.YtloccjkcmlkifaaDoorW.PrintWords Go.Proofs.YtloccjkcmlkifaaDoorW.PrintLast

abbrev ax : S41 := insO 1 1 3 ⟨#[120, 121]⟩
abbrev bx : S41 := insO 2 1 3 ⟨#[97, 98, 99]⟩
abbrev cx : S41 := insO 1 1 5 ⟨#[120]⟩
abbrev dx : S41 := insO 1 1 3 ⟨#[97, 98, 99]⟩
abbrev ex : S41 := insO 2 1 3 ⟨#[120]⟩
theorem aw1 : wrap1 ax bx (incE ax bx true) = (insO 1 1 6 ⟨#[120, 121]⟩, 0) := by kernel_rfl
theorem aw2 : wrap1 ax bx (incE ax bx false) = (insO 1 1 3 ⟨#[120, 121]⟩, 0) := by kernel_rfl
theorem aw3 : wrap1 cx bx (excE cx bx) = (z41, 23) := by kernel_rfl
theorem aw4 : wrap2 dx ex (trE dx ex) = (insO 2 1 3 ⟨#[120]⟩, insO 1 1 4 ⟨#[97, 98, 99]⟩, 0) := by kernel_rfl
theorem fine_ins (c n p : Int) (t : ByteArray) (h : t.size ≤ 1048576) : fineOp (insO c n p t) := ⟨h, by simp⟩
set_option maxRecDepth 100000 in
set_option maxHeartbeats 4000000 in
theorem awake_any (w : World) (hG : GW w) : Calls Tryd.prog 31 #[] w (Yes w) := by
 have S := Aside0.mk (St.init w (F := fun _ => True) (fun _ _ => trivial))
 have HG := Aside0.mk hG
 have HFA := Aside0.mk (fine_ins 1 1 3 ⟨#[120, 121]⟩ (by decide)); have HFB := Aside0.mk (fine_ins 2 1 3 ⟨#[97, 98, 99]⟩ (by decide)); have HFC := Aside0.mk (fine_ins 1 1 5 ⟨#[120]⟩ (by decide))
 have HFD := Aside0.mk (fine_ins 1 1 3 ⟨#[97, 98, 99]⟩ (by decide)); have HFE := Aside0.mk (fine_ins 2 1 3 ⟨#[120]⟩ (by decide))
 clear hG
 go_enter Tryd.func31, Tryd.ntmps31
 go_wp2_with (first | (go_at_call 25; (with_reducible refine (ins_any _ _ _ _ _).mono ?_); rintro e_ w7 ⟨rfl, hb⟩; replace S := Aside0.mk (S.out.step hb); clear hb) | (go_at_call 26; (with_reducible refine (Include_any ax bx _ _ _ _ (GW.below HG.out S.out.below) (opC_nil _ ax rfl) (opC_nil _ bx rfl) HFA.out HFB.out).mono ?_); rintro e_ w7 ⟨v, rfl, hR, hb⟩; (first | rw [aw1] at hR ⊢ | rw [aw2] at hR ⊢); obtain ⟨Ao, co, rfl⟩ := hR.slice; replace S := Aside0.mk (S.out.addOp hb hR); clear hb hR) | (go_at_call 58; (with_reducible refine (Exclude_any cx bx _ _ _ (GW.below HG.out S.out.below) (opC_nil _ cx rfl) (opC_nil _ bx rfl) HFC.out HFB.out).mono ?_); rintro e_ w7 ⟨v, rfl, hR, hb⟩; rw [aw3] at hR ⊢; obtain ⟨Ao, co, rfl⟩ := hR.slice; replace S := Aside0.mk (S.out.addOp hb hR); clear hb hR) | (go_at_call 59; (with_reducible refine (Transpose_any dx ex _ _ _ (GW.below HG.out S.out.below) (opC_nil _ dx rfl) (opC_nil _ ex rfl) HFD.out HFE.out).mono ?_); rintro e_ w7 ⟨v, v2, rfl, hR, hR2, hb⟩; rw [aw4] at hR hR2 ⊢; obtain ⟨Ao, co, rfl⟩ := hR.slice; obtain ⟨Ap, cp, rfl⟩ := hR2.slice; replace S := Aside0.mk (S.out.addR2 hb hR hR2); clear hb hR hR2) | ((with_reducible refine gate_new rfl ?_); refine ev_new S 41 zA ?_; clear S; intro _ _ S) | ((with_reducible refine gate_st rfl ?_); refine ev_store S ?_; clear S; intro _ S) | ((with_reducible refine gate_load rfl ?_); refine ev_fld S ?_) | (go_at_call 23; (with_reducible refine (num_any _ _).mono ?_); rintro e_ w7 ⟨rfl, hb⟩; replace S := Aside0.mk (S.out.step hb); clear hb))
 go_ret
 exact ⟨rfl, S.out.below⟩
end Go.Proofs.YtloccjkcmlkifaaDoor
end

section
/- XformOverIsCross: the walk. -/
namespace Go.Proofs.YtloccjkcmlkifaaDoor
open Go.RowKit Go.Proofs.YtloccjkcmlkifaaDoor.PAll Go.Proofs.YtloccjkcmlkifaaDoorW.PrintWords Go.Proofs.YtloccjkcmlkifaaDoorW.PrintLast

section
variable {P : Program} {ops : Array Oper} {Q : Exit → Act → World → Prop} {md : Region.Mode} {S : World → Prop} {ds : List Nat} {fuel : Nat} {l : Array Bool} {a : Act} {w w0 : World} {oi : Oper} {N : Tmp} {bs : List Bx} {F : World → Prop}
theorem bs_ (i : Nat) (cs : Array Value) (n : Nat) {ty : TypeId} {xs : Array (Nat × Operand)} (hSt : St w0 w bs F)
 (h : ∀ g w', St w0 w' ((g, 41, cs) :: bs) F → S w' ∧ (S w' → wpAnyLast P md ops Q S ds fuel (l.setIfInBounds i true) (a.put (some N) (.slice (some ⟨g, 0, none⟩) n n)) w'))
 (hi : ops[i]? = some oi := by rfl) (hN : oi.dst = some N := by rfl) (hc : readyB md ops l (l.setIfInBounds i true) i = true := by kernel_rfl) (hd : i ∉ ds := by decide)
 (ho : oi.op = .buildSlice ty n xs := by rfl)
 (hw : Region.wanted oi (yielded ops a.tmps) = true := by first | exact wanted_plain rfl | (refine wanted_on rfl ?_; simp [yielded]))
 (hrun : (execOp a.eval oi).run P w = .ok (.value (.slice (some ⟨w.heap.size, 0, none⟩) n n)) (w.alloc (.cells cs 41 (0, 0))) := by first | (go_simp; done) | (go_simp; rfl)) : wpAnyLast P md ops Q S ds (fuel + 1) l a w :=
 one_ (l.setIfInBounds i true) hi hN hc hd fun K hK => by
  have _ := ho
  rw [if_pos hw]
  unfold Oper.wp
  rw [hrun]
  show K (a.put oi.dst _) _
  rw [hN]
  obtain ⟨h1, h2⟩ := h _ _ (hSt.push (below_alloc (Below.refl _ _) _) (blk_new w _) rfl)
  exact hK.out _ _ h1 h2
end
set_option maxRecDepth 100000 in
theorem first_any (v : Value) (sn : Nat) (w : World) (hs : SpecsC w v sn) : Calls Tryd.prog 30 #[v] w fun e w' => ∃ kd at_ m P cp, ∃ (l : List Int) (on : Bool), e = .returned (.agg #[.int .i64 kd, .int .i64 at_, .int .i64 m, .slice P l.length cp, .bool on]) ∧ l.length ≤ cp ∧ Kd.C (Kd.int .i64) w' P l.length l ∧ Below w.heap.size w w' := by
 obtain ⟨A, c, rfl, h1, h2⟩ := hs
 have S := Aside0.mk (St.init w (F := fun _ => True) (fun _ _ => trivial))
 by_cases h0 : sn = 0
 · subst h0
   clear h2
   go_enter Tryd.func30, Tryd.ntmps30
   go_wp2_with (first | ((with_reducible refine gate_new rfl ?_); refine ev_new S 57 #[.int .i64 0, .int .i64 0, .int .i64 0, .slice none 0 0, .bool false] ?_; clear S; intro _ _ S) | ((with_reducible refine gate_st rfl ?_); refine ev_store S ?_; clear S; intro _ S))
   exact bodyPost_ret (results_cell_row rfl _ _ _ 57 _ (0, 0) _ rfl (S.out.at_ 0 rfl) Tryd.underlying57 rfl (by kernel_rfl)) rfl ⟨0, 0, 0, none, 0, [], false, rfl, Nat.le_refl _, by exact ⟨rfl, by simp, fun h => absurd h (by simp)⟩, S.out.below⟩
 · obtain ⟨ad, kd, at_, m, P, cp, l, on, rfl, hat, hpl, hpc⟩ := h2 0 (by omega)
   have e0 : (((sn : Nat) : Int) == 0) = false := beq_eq_false_iff_ne.mpr (by omega)
   have hlt : 0 < sn := by omega
   have HAT : Aside0 (∀ W, Below w.heap.size w W → atL W ad 0 [.int .i64 kd, .int .i64 at_, .int .i64 m, .slice P l.length cp, .bool on]) := ⟨fun W hW => by simpa [Addr.add] using hat W hW⟩
   have HPC := Aside0.mk hpc; have HPL := Aside0.mk hpl
   clear h2 hat hpc hpl h0
   go_enter Tryd.func30, Tryd.ntmps30
   go_wp2_with (first | ((with_reducible refine gate_new rfl ?_); refine ev_new S 57 #[.int .i64 0, .int .i64 0, .int .i64 0, .slice none 0 0, .bool false] ?_; clear S; intro _ _ S) | ((with_reducible refine gate_load rfl ?_); refine ev_ext #[.int .i64 kd, .int .i64 at_, .int .i64 m, .slice P l.length cp, .bool on] (HAT.out _ S.out.below) ?_ (hu := Tryd.underlying57)) | ((with_reducible refine gate_st rfl ?_); refine ev_store S ?_; clear S; intro _ S))
   exact bodyPost_ret (results_cell_row rfl _ _ _ 57 _ (0, 0) _ rfl (S.out.at_ 0 rfl) Tryd.underlying57 rfl (by kernel_rfl)) rfl ⟨kd, at_, m, P, cp, l, on, rfl, HPL.out, Kd.C_below HPC.out S.out.below, S.out.below⟩
theorem St.addOwn {w0 w w' : World} {bs : List Bx} {F : World → Prop} {v : Value} {l : List S41} (S : St w0 w bs F) (hb : Below w.heap.size w w') (h : OwnRun w' w.heap.size v l) : St w0 w' bs (fun W => F W ∧ OwnRun W w0.heap.size v l) := S.addS hb h
theorem St.atBox {w0 w : World} {bs : List Bx} {F : World → Prop} {g : Nat} {t : TypeId} {cs : Array Value} (S : St w0 w bs F) (i : Nat) (e : bs[i]? = some (g, t, cs)) : ∀ W, Below w.heap.size w W → atL W ⟨g, 0, none⟩ 0 cs.toList := fun W hb => atL_blk (by simpa using blk_below (S.at_ i e) hb)
theorem RunC.head {w : World} {A : Option Addr} {n c : Nat} {x : S41} (h : RunC w (.slice A n c) [x]) :
 ∃ ad A5 c5, A = some ad ∧ (∀ W, Below w.heap.size w W → atL W ad 0 (opA x (.slice A5 x.f3.length c5)).toList) ∧ OpC w (.slice A5 x.f3.length c5) x := by
 obtain ⟨A', c', e, _, hC⟩ := h
 injection e with e1 e2 e3
 subst e1
 obtain ⟨ad, A5, c5, h1, h2, h3⟩ := elem_C hC 0 (by simp)
 exact ⟨ad, A5, c5, h1, fun W hW => by simpa [Addr.add] using h2 W hW, h3⟩
theorem SpecsC.later {w w' : World} {v : Value} {n : Nat} (h : SpecsC w v n) (hb : Below w.heap.size w w') : SpecsC w' v n := by
 obtain ⟨A, c, e, h1, h2⟩ := h
 refine ⟨A, c, e, h1, fun i hi => ?_⟩
 obtain ⟨ad, kd, at_, m, P, cp, l, on, e1, h3, h4, h5⟩ := h2 i hi
 exact ⟨ad, kd, at_, m, P, cp, l, on, e1, fun W hW => h3 W (below_then hb hb.size hW), h4, Kd.C_below h5 hb⟩
theorem MadeRun.fine {ci : Int} {n0 : Nat} {a : List S41} {n : Nat} (h : MadeRun ci n0 a n) (hc : 1 ≤ ci ∧ ci ≤ 2) (hn : n ≤ 1000) (hl : a.length ≤ 100) : fineRun a := ⟨by omega, fun o ho => (h.good hc hn (by omega) o ho).fine⟩
set_option maxRecDepth 100000 in
set_option maxHeartbeats 4000000 in
theorem XformOverIsCross_any (len : Int) (A : Option Addr) (sn sc : Nat) (B : Option Addr) (sm sd : Nat) (i j : Int) (e : Bool) (v3 : Value) (w : World) (hG : GW w) (hT : GT w) (hs : SpecsC w (.slice A sn sc) sn) (hsn : sn ≤ 281474976710656) (hq : SpecsC w (.slice B sm sd) sm) (_ : sm ≤ 281474976710656) (_ : (Lit.int .i64 i).wf = true) (_ : (Lit.int .i64 j).wf = true) :
 Calls Tryd.prog 8 #[.agg #[.int .i64 len, .slice A sn sc, .slice B sm sd, .int .i64 i, .int .i64 j, .bool e, v3]] w (Yes w) := by
 obtain ⟨n', h1, b1, b2, _⟩ := within_is len 30 (by omega)
 replace b2 := b2 (by omega)
 obtain ⟨n, rfl⟩ : ∃ n : Nat, n' = (n : Int) := ⟨n'.toNat, by omega⟩
 have H1 := Aside0.mk h1
 have HN := Aside0.mk (show n ≤ 1000 by omega); have HN9 := Aside0.mk (show n ≤ 900 by omega)
 have S := Aside0.mk (St.init w (F := fun _ => True) (fun _ _ => trivial))
 have HG := Aside0.mk hG; have HT := Aside0.mk hT; have HSN := Aside0.mk hsn
 have HSP : Aside0 (∀ W, Below w.heap.size w W → SpecsC W (.slice A sn sc) sn) := ⟨fun W hW => hs.later hW⟩
 have HSQ : Aside0 (∀ W, Below w.heap.size w W → SpecsC W (.slice B sm sd) sm) := ⟨fun W hW => hq.later hW⟩
 have HN30 := Aside0.mk (show n < 30 by omega)
 clear h1 hG hT hs hq hsn b1 b2
 go_enter Tryd.func8, Tryd.ntmps8
 go_upto_region 4 with (first | ((with_reducible refine gate_box rfl ?_); refine ev_box S ?_; clear S; intro _ _ S) | ((with_reducible refine gate_new rfl ?_); refine ev_new S 41 zA ?_; clear S; intro _ _ S) | ((with_reducible refine gate_load rfl ?_); first | refine ev_load S ?_ | refine ev_fld S ?_) | ((with_reducible refine gate_st rfl ?_); refine ev_store S ?_; clear S; intro _ S) | (go_at_call 18; (with_reducible refine (redraftlaw05_within.calls len 30 _ _ H1.out).mono ?_); rintro e_ w7 ⟨rfl, hb⟩; replace S := Aside0.mk (S.out.step hb.below); clear hb) | (go_at_call 20; (with_reducible refine (run_any 1 n sn _ _ (GT.below HT.out S.out.below) (HSP.out _ S.out.below) HN9.out HSN.out).mono ?_); rintro e_ w7 ⟨vu, a, n1, rfl, hM, hL, hR, hb⟩; obtain ⟨Au, cu, rfl⟩ := Kd.S_slice hR; replace S := Aside0.mk (S.out.addS hb hR); have HM := Aside0.mk hM; have HL := Aside0.mk hL; clear hb hR hM hL) | (go_at_call 30; (with_reducible refine (first_any _ sm _ (HSQ.out _ S.out.below)).mono ?_); rintro e_ w7 ⟨kd, at_, m_, P, cp, l, on, rfl, hpl, hpc, hb⟩; replace S := Aside0.mk (S.out.step hb); have HPL := Aside0.mk hpl; have HPC := Aside0.mk hpc; clear hb hpl hpc) | (go_at_call 29; (with_reducible refine (made_in kd at_ m_ P cp l on _ _ n _ (GT.below HT.out S.out.below) HPC.out HPL.out HN.out).mono ?_); rintro e_ w7 ⟨o, v, rfl, hOK, hR, hb⟩; obtain ⟨Ao, co, rfl⟩ := hR.slice; replace S := Aside0.mk (S.out.addOp hb hR); have HOK := Aside0.mk hOK; clear hb hR hOK HPC))
 have hb1 := HM.out.bound
 have hn1 : n1 ≤ 90 := by have := HN30.out; have := HL.out; omega
 have hsa := HM.out.sm (by omega) (by omega) (by have := HL.out; omega)
 have hso := HOK.out.sm (by have := HN30.out; omega) (by omega) (by omega)
 have HXA := Aside0.mk (show ∀ x ∈ a, Sm x 1000 from fun x hx => (hsa x hx).1.mono (by omega))
 have HID := Aside0.mk (show ∀ x ∈ a, o.f0.f0.f0 ≠ x.f0.f0.f0 from fun x hx => by rw [(hsa x hx).2, HOK.out.id]; simp)
 have HXO := Aside0.mk (show Sm o 1000 from hso.mono (by have := HN30.out; omega))
 have HFA := Aside0.mk (HM.out.fine (by omega) (by omega) (by have := HL.out; omega))
 have HFO := Aside0.mk (show fineRun [o] from ⟨by simp, fun x hx => by rw [List.mem_singleton.1 hx]; exact HXO.out.good.fine⟩)
 have HL2 := Aside0.mk (show a.length ≤ 100 by have := HL.out; omega)
 obtain ⟨q1, q2⟩ := over_small (e := true) HXO.out HXA.out HID.out HL2.out
 obtain ⟨p1, p2⟩ := over_small (e := false) HXO.out HXA.out HID.out HL2.out
 obtain ⟨fs, r1⟩ := cross_one HXO.out HXA.out HID.out HL2.out
 obtain ⟨ls, r2⟩ := cross_one' HXO.out HXA.out HID.out HL2.out
 obtain ⟨x, hx⟩ : ∃ x, x = foldO true o a := ⟨_, rfl⟩
 obtain ⟨y, hy⟩ : ∃ y, y = foldO false o a := ⟨_, rfl⟩
 rw [← hx] at q1 q2 r1
 rw [← hy] at p1 p2 r2
 have HQ1 := Aside0.mk q1; have HQ2 := Aside0.mk q2; have HP1 := Aside0.mk p1; have HP2 := Aside0.mk p2; have HR1 := Aside0.mk r1; have HR2 := Aside0.mk r2
 clear hb1 hn1 hsa hso q1 q2 p1 p2 r1 r2 hx hy
 replace S := Aside0.mk (S.out.weak (F' := fun W => (OwnRun W w.heap.size (.slice Au a.length cu) a ∧ OpR W w.heap.size (.slice Ao o.f3.length co) o) ∧ True) fun _ h => ⟨⟨h.1.2, h.2⟩, trivial⟩)
 go_upto_region 5 with (first | ((with_reducible refine gate_new rfl ?_); refine ev_new S 41 zA ?_; clear S; intro _ _ S) | ((with_reducible refine gate_load rfl ?_); first | refine ev_load S ?_ | refine ev_fld S ?_) | ((with_reducible refine gate_st rfl ?_); refine ev_store S ?_; clear S; intro _ S) | (go_at_call 22; (with_reducible refine (rcopy_any o _ _ S.out.now.1.2.C HXO.out.good.fine).mono ?_); rintro e_ w7 ⟨v, rfl, hR, hb⟩; obtain ⟨Av, cv, rfl⟩ := hR.slice; replace S := Aside0.mk (S.out.addOp hb hR); clear hb hR) | (go_at_call 36; (with_reducible refine (copyRun_any a _ _ (OwnRun.C S.out.now.1.1.1) HFA.out.2 HFA.out.1).mono ?_); rintro e_ w7 ⟨u, rfl, hR, hb⟩; obtain ⟨Aw, cw, rfl⟩ := Kd.S_slice hR; replace S := Aside0.mk (S.out.addOwn hb hR); clear hb hR) | (go_at_call 42; (with_reducible refine (over_any o true a _ _ _ (GW.below HG.out S.out.below) S.out.now.1.2.C (OwnRun.C S.out.now.2) HXO.out.good.fine HFA.out.2 HFA.out.1).mono ?_); rintro e_ w7 ⟨v, rfl, hR, hb⟩; rw [HQ1.out] at hR ⊢; obtain ⟨Ax, cx, rfl⟩ := hR.slice; replace S := Aside0.mk (S.out.addOp hb hR); clear hb hR))
 refine rg_start (n := 13) (fun W => St w W _ (fun W => (OwnRun W w.heap.size (.slice Au a.length cu) a ∧ OpR W w.heap.size (.slice Ao o.f3.length co) o) ∧ OpR W w.heap.size (.slice Ax x.f3.length cx) x)) [] (S.out.weak fun _ h => ⟨h.1.1.1.1, h.2⟩) (fun _ h => h.drew) ?_
 clear S
 intro _ S
 refine pu_ 0 ?_; refine ld_ 2 1 S ?_
 refine cl_ 1 #[.slice Au a.length cu] ?_ Tryd.func36
 refine (copyRun_any a _ _ (OwnRun.C S.now.1.1) HFA.out.2 HFA.out.1).mono ?_
 rintro e_ w7 ⟨u, rfl, hR, hb⟩
 obtain ⟨Ac, cc, rfl⟩ := Kd.S_slice hR
 refine ⟨_, rfl, S.step hb, fun _ => ?_⟩
 replace S := S.addOwn hb hR
 clear hb hR
 refine nr_ ?_
 refine cl_ 3 #[.agg (opA o (.slice Ao o.f3.length co))] ?_ Tryd.func22
 refine (rcopy_any o _ _ S.now.1.1.2.C HXO.out.good.fine).mono ?_
 rintro e_ w7 ⟨v, rfl, hR, hb⟩
 obtain ⟨Ad, cd, rfl⟩ := hR.slice
 refine ⟨_, rfl, (S.step hb).weak fun _ h => h.1, fun _ => ?_⟩
 replace S := S.addOp hb hR
 clear hb hR
 refine nr_ ?_
 refine bs_ 4 (opA o (.slice Ad o.f3.length cd)) 1 S ?_
 intro gl _ S'
 refine ⟨(S'.drop (List.sublist_cons_self _ _)).weak fun _ h => h.1.1, fun _ => ?_⟩
 clear S
 refine nr_ ?_
 refine cl_ 5 #[.slice Ac a.length cc, .slice (some ⟨gl, 0, none⟩) 1 1] ?_ Tryd.func35
 refine (cross_any a [o] _ _ _ (GW.below HG.out S'.below) (OwnRun.C S'.now.1.2) (runC_box1 (S'.at_ 0 rfl) S'.now.2.C) HFA.out HFO.out).mono ?_
 rintro e_ w7 ⟨v, v2, rfl, hR, hR2, hb⟩
 rw [HR1.out] at hR hR2 ⊢
 obtain ⟨Ag, cg, rfl⟩ := RunC.slice hR.C
 obtain ⟨Ah, ch, eh⟩ := RunC.slice hR2.C
 replace eh : v2 = .slice Ah 1 ch := eh
 subst eh
 refine ⟨_, rfl, ((S'.step hb).drop (List.sublist_cons_self _ _)).weak fun _ h => h.1.1, fun _ => ?_⟩
 have S := (S'.addRuns hb hR hR2).drop (List.sublist_cons_self _ _)
 clear hb hR hR2 S'
 refine nr_ ?_
 refine pu_ 6 ?_; refine pu_ 7 ?_; refine pu_ 8 ?_; refine pu_ 9 ?_; refine pu_ 10 ?_; refine pu_ 11 ?_; refine pu_ 12 ?_; refine done_ (by kernel_rfl) ?_
 replace S := Aside0.mk (S.weak (F' := fun W => (OwnRun W w.heap.size (.slice Au a.length cu) a ∧ OpR W w.heap.size (.slice Ao o.f3.length co) o) ∧ OpR W w.heap.size (.slice Ax x.f3.length cx) x ∧ RunC W (.slice Ah 1 ch) [x]) fun _ h => ⟨h.1.1.1.1, h.1.1.1.2, h.2.2⟩)
 go_upto_region 7 with (first | ((with_reducible refine gate_new rfl ?_); refine ev_new S 41 zA ?_; clear S; intro _ _ S) | ((with_reducible refine gate_load rfl ?_); first | refine ev_load S ?_ | refine ev_fld S ?_) | ((with_reducible refine gate_st rfl ?_); refine ev_store S ?_; clear S; intro _ S) | (go_at_call 22; (with_reducible refine (rcopy_any o _ _ S.out.now.1.2.C HXO.out.good.fine).mono ?_); rintro e_ w7 ⟨v, rfl, hR, hb⟩; obtain ⟨Av, cv, rfl⟩ := hR.slice; replace S := Aside0.mk (S.out.addOp hb hR); clear hb hR) | (go_at_call 36; (with_reducible refine (copyRun_any a _ _ (OwnRun.C S.out.now.1.1.1) HFA.out.2 HFA.out.1).mono ?_); rintro e_ w7 ⟨u, rfl, hR, hb⟩; obtain ⟨Aw, cw, rfl⟩ := Kd.S_slice hR; replace S := Aside0.mk (S.out.addOwn hb hR); clear hb hR) | (go_at_call 42; (with_reducible refine (over_any o false a _ _ _ (GW.below HG.out S.out.below) S.out.now.1.2.C (OwnRun.C S.out.now.2) HXO.out.good.fine HFA.out.2 HFA.out.1).mono ?_); rintro e_ w7 ⟨v, rfl, hR, hb⟩; rw [HP1.out] at hR ⊢; obtain ⟨Ay, cy, rfl⟩ := hR.slice; replace S := Aside0.mk (S.out.addOp hb hR); clear hb hR))
 replace S := Aside0.mk (S.out.weak (F' := fun W => (OwnRun W w.heap.size (.slice Au a.length cu) a ∧ OpR W w.heap.size (.slice Ao o.f3.length co) o) ∧ (OpR W w.heap.size (.slice Ax x.f3.length cx) x ∧ RunC W (.slice Ah 1 ch) [x]) ∧ OpR W w.heap.size (.slice Ay y.f3.length cy) y) fun _ h => ⟨h.1.1.1.1, h.1.1.1.2, h.2⟩)
 go_upto_region 10 with (first | ((with_reducible refine gate_load rfl ?_); first | refine ev_load S ?_ | refine ev_fld S ?_) | (go_at_call 22; (with_reducible refine (rcopy_any o _ _ S.out.now.1.2.C HXO.out.good.fine).mono ?_); rintro e_ w7 ⟨v, rfl, hR, hb⟩; obtain ⟨Av, cv, rfl⟩ := hR.slice; replace S := Aside0.mk (S.out.addOp hb hR); clear hb hR) | (refine ev_lit S (opA o (.slice Av o.f3.length cv)) 1 ?_; clear S; intro _ _ S) | (go_at_call 36; (with_reducible refine (copyRun_any a _ _ (OwnRun.C S.out.now.1.1.1) HFA.out.2 HFA.out.1).mono ?_); rintro e_ w7 ⟨u, rfl, hR, hb⟩; obtain ⟨Aw, cw, rfl⟩ := Kd.S_slice hR; replace S := Aside0.mk (S.out.addOwn hb hR); clear hb hR) | (go_at_call 35; (with_reducible refine (cross_any [o] a _ _ _ (GW.below HG.out S.out.below) (runC_box1 (S.out.at_ 0 rfl) S.out.now.1.2.C) (OwnRun.C S.out.now.2) HFO.out HFA.out).mono ?_); rintro e_ w7 ⟨v, v2, rfl, hR, hR2, hb⟩; rw [HR2.out] at hR hR2 ⊢; obtain ⟨Am, cm, em⟩ := RunC.slice hR.C; replace em : v = .slice Am 1 cm := em; subst em; obtain ⟨An, cn, rfl⟩ := RunC.slice hR2.C; replace S := Aside0.mk (S.out.addRuns hb hR hR2); clear hb hR hR2) | (go_at_call 23; (with_reducible refine (num_any _ _).mono ?_); rintro e_ w7 ⟨rfl, hb⟩; replace S := Aside0.mk (S.out.step hb); clear hb))
 have hF := S.out.now
 obtain ⟨a1, B1, d1, rfl, hat1, hop1⟩ := RunC.head hF.1.1.1.2.1.2
 obtain ⟨a2, B2, d2, rfl, hat2, hop2⟩ := RunC.head hF.2.1
 have HX1 := Aside0.mk hat1; have HO1 := Aside0.mk hop1; have HX2 := Aside0.mk hat2; have HO2 := Aside0.mk hop2
 have HOX := Aside0.mk (hF.1.1.1.2.1.1.C); have HOY := Aside0.mk (hF.1.1.1.2.2.C)
 have HBX := Aside0.mk (S.out.atBox 2 rfl); have HBY := Aside0.mk (S.out.atBox 1 rfl)
 have HB := Aside0.mk S.out.below
 have HG2 := Aside0.mk (GW.below HG.out S.out.below)
 have HLX := Aside0.mk (show x.f3.length ≤ 4611686018427387904 by have := HQ2.out.good.fine.2; omega)
 have HLY := Aside0.mk (show y.f3.length ≤ 4611686018427387904 by have := HP2.out.good.fine.2; omega)
 clear hF hat1 hop1 hat2 hop2
 refine rg_start (n := 16) (fun W => St _ W [] (fun _ => True)) [] (St.init _ (F := fun _ => True) (fun _ _ => trivial)) (fun _ h => h.drew) ?_
 clear S
 intro _ S
 refine cl_ 0 #[] ?_ Tryd.func31
 refine (awake_any _ (GW.below HG2.out S.below)).mono ?_
 rintro e_ w7 ⟨rfl, hb⟩
 refine ⟨_, rfl, S.step hb, fun S' => ?_⟩
 clear S hb
 have S := S'
 clear S'
 refine nr_ ?_
 refine pu_ 1 ?_; refine le_ 2 (opA x (.slice Ax x.f3.length cx)) S (fun _ h => HBX.out _ h.below) ?_
 refine pu_ 3 ?_; refine pu_ 4 ?_; refine le_ 5 (opA x (.slice B1 x.f3.length d1)) S (fun _ h => HX1.out _ h.below) ?_
 refine cl_ 6 #[.agg (opA x (.slice Ax x.f3.length cx)), .agg (opA x (.slice B1 x.f3.length d1))] ?_ Tryd.func43
 refine (sameOp_any x _ _ _ (HOX.out.below S.below) (HO1.out.below S.below) HLX.out).mono ?_
 rintro e_ w7 ⟨rfl, hb⟩
 refine ⟨_, rfl, S.step hb, fun S' => ?_⟩
 clear S hb
 have S := S'
 clear S'
 refine nr_ ?_
 refine pu_ 7 ?_; refine pu_ 8 ?_; refine le_ 9 (opA y (.slice Ay y.f3.length cy)) S (fun _ h => HBY.out _ h.below) ?_
 refine pu_ 10 ?_; refine pu_ 11 ?_; refine le_ 12 (opA y (.slice B2 y.f3.length d2)) S (fun _ h => HX2.out _ h.below) ?_
 refine cl_ 13 #[.agg (opA y (.slice Ay y.f3.length cy)), .agg (opA y (.slice B2 y.f3.length d2))] ?_ Tryd.func43
 refine (sameOp_any y _ _ _ (HOY.out.below S.below) (HO2.out.below S.below) HLY.out).mono ?_
 rintro e_ w7 ⟨rfl, hb⟩
 refine ⟨_, rfl, S.step hb, fun S' => ?_⟩
 clear S hb
 have S := S'
 clear S'
 refine nr_ ?_
 refine pu_ 14 ?_; refine pu_ 15 ?_; refine done_ (by kernel_rfl) ?_
 go_wp2_with (fail)
 go_ret
 exact ⟨rfl, below_then HB.out HB.out.size S.below⟩
end Go.Proofs.YtloccjkcmlkifaaDoor
end
