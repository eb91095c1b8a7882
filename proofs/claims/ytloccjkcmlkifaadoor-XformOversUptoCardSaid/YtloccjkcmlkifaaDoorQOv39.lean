/- XformOvers_card, part 39. -/
import Derived.Test.YtloccjkcmlkifaaDoorQOv38
import Derived.Test.YtloccjkcmlkifaaDoorQOv33
section
namespace Go.Proofs.YtloccjkcmlkifaaDoor
open Go.RowKit Go.Proofs.YtloccjkcmlkifaaDoor.PAll Go.Proofs.YtloccjkcmlkifaaDoorW.PrintWords Go.Proofs.YtloccjkcmlkifaaDoorW.PrintLast
abbrev stA (s : S100) (va vb vr vo : Value) : Array Value := #[.int .i64 s.f0, .int .i64 s.f1.f0.f0.f0, .int .i64 s.f1.f0.f0.f1, .int .i64 s.f1.f0.f1, .int .i64 s.f1.f1, .string s.f1.f2, va, .int .i64 s.f1.f4.f0, .int .i64 s.f1.f4.f1, .bool s.f1.f5,
  .int .i64 s.f2.f0.f0.f0, .int .i64 s.f2.f0.f0.f1, .int .i64 s.f2.f0.f1, .int .i64 s.f2.f1, .string s.f2.f2, vb, .int .i64 s.f2.f4.f0, .int .i64 s.f2.f4.f1, .bool s.f2.f5, vr, vo, .bool s.f5, .int .i64 s.f6, .int .i64 s.f7]
structure StepC (w : World) (va vb vr vo : Value) (s : S100) : Prop where
  a : OpC w va s.f1
  b : OpC w vb s.f2
  r : RunC w vr s.f3
  o : RunC w vo s.f4
theorem StepC.below {w w' : World} {va vb vr vo : Value} {s : S100} (h : StepC w va vb vr vo s) (hb : Below w.heap.size w w') : StepC w' va vb vr vo s := ⟨h.a.below hb, h.b.below hb, h.r.below hb, h.o.below hb⟩
theorem atL_sub {w : World} {g : Nat} {t : TypeId} {cs : Array Value} (h : w.heap[g]? = some (.cells cs t (0, 0))) (j : Nat) (sub : List Value) (hs : sub = (cs.toList.drop j).take sub.length) : atL w ⟨g, j, none⟩ 0 sub :=
  atL_mk fun i v hv => by
    have hadd : (⟨g, j, none⟩ : Addr).add (0 + i) = ⟨g, j + i, none⟩ := by
      rw [Nat.zero_add]; unfold Addr.add
      by_cases hi0 : i = 0
      · rw [if_pos hi0, hi0, Nat.add_zero]
      · rw [if_neg hi0]
    rw [hadd, blk_cell h]
    rw [hs] at hv
    have hi : i < sub.length := by
      have := (List.getElem?_eq_some_iff.1 hv).1
      simp at this; omega
    rw [List.getElem?_take_of_lt hi, List.getElem?_drop] at hv
    simpa using hv
section
variable {P : Program} {ops : Array Oper} {rest : List Oper} {o : Oper} {a a' : Act} {Q : Exit → Act → World → Prop} {w0 W w : World} {bs : List Bx} {F : World → Prop} {g : Nat} {t : TypeId} {cs : Array Value}
theorem ev_sub (S : Aside0 (St w0 W bs F)) (i : Nat) (sub : Array Value) {N j : Nat} {ty : TypeId} {x : Operand} {d : TypeDesc}
    (h : wpList P ops Q rest (a.put (some N) (.agg sub)) W)
    (ho : o.op = .load ty x := by rfl) (hx : a.eval x = .pointer (some ⟨g, j, none⟩) := by rfl) (e : bs[i]? = some (g, t, cs) := by rfl) (hd : o.dst = some N := by rfl)
    (hs : sub.toList = (cs.toList.drop j).take sub.toList.length := by rfl)
    (hw : Region.wanted o (yielded ops a.tmps) = true := by first | exact wanted_plain rfl | (refine wanted_on rfl ?_; simp [yielded])) (hu : P.underlying ty = some d := by exact Tryd.underlying41) (hdd : (match d with | .struct _ | .array _ _ => true | _ => false) = true := by rfl) (hi : (P.info? ty).map (·.size) = some sub.size := by kernel_rfl) : wpList P ops Q (o :: rest) a W :=
  ev_ext sub (atL_sub (S.out.at_ i e) j sub.toList hs) h ho hx hd hw hu hdd hi
variable {md : Region.Mode} {S : World → Prop} {ds : List Nat} {fuel : Nat} {l : Array Bool} {oi : Oper} {N : Tmp}
theorem sb_ (i k : Nat) (sub : Array Value) {j : Nat} {ty : TypeId} {x : Operand} {d : TypeDesc} (hS : S w) (hSt : ∀ w, S w → St w0 w bs F)
    (h : wpAnyLast P md ops Q S ds fuel (l.setIfInBounds i true) a' w)
    (hi : ops[i]? = some oi := by rfl) (hN : oi.dst = some N := by rfl) (hc : takeB md ops ds l (l.setIfInBounds i true) i = true := by kernel_rfl)
    (ho : oi.op = .load ty x := by rfl) (hx : a.eval x = .pointer (some ⟨g, j, none⟩) := by rfl) (e : bs[k]? = some (g, t, cs) := by rfl)
    (hsu : sub.toList = (cs.toList.drop j).take sub.toList.length := by rfl)
    (hw : Region.wanted oi (yielded ops a.tmps) = true := by first | exact wanted_plain rfl | (refine wanted_on rfl ?_; simp [yielded]))
    (hu : P.underlying ty = some d := by exact Tryd.underlying41) (hdd : (match d with | .struct _ | .array _ _ => true | _ => false) = true := by rfl) (hs : (P.info? ty).map (·.size) = some sub.size := by kernel_rfl)
    (ha : a.put (some N) (.agg sub) = a' := by (simp only [Act.put, List.setIfInBounds_toArray, List.set_cons_zero, List.set_cons_succ]; rfl))
    (hQ : ∀ c a w, Q (.panic c) (a.put oi.dst (.agg sub)) w → Q (.panic c) a w := by exact fun _ _ _ h => h) : wpAnyLast P md ops Q S ds (fuel + 1) l a w :=
  le_ i sub hS (fun w' hS' => atL_sub ((hSt w' hS').at_ k e) j sub.toList hsu) h hi hN hc ho hx hw hu hdd hs ha hQ
end
theorem foot_S {α : Type} {d : Kd α} {e : Nat} {w : World} {base : Nat} {v : Value} {xs : List α} (h : Kd.S d e w base (fun _ => True) v xs) : Foot (fun W => Kd.S d e W base (fun _ => True) v xs) w (fun k => base ≤ k) := by
  obtain ⟨f, h⟩ := h
  exact fun W' hW => ⟨f, foot_R h W' hW⟩
theorem St.addS {α : Type} {d : Kd α} {e : Nat} {w0 w w' : World} {bs : List Bx} {F : World → Prop} {v : Value} {xs : List α} (S : St w0 w bs F) (hb : Below w.heap.size w w') (h : Kd.S d e w' w.heap.size (fun _ => True) v xs) : St w0 w' bs (fun W => F W ∧ Kd.S d e W w0.heap.size (fun _ => True) v xs) :=
  S.add hb fun W' hW => Kd.S_lower (foot_S h W' hW) S.below.size
def OwnRun (w : World) (base : Nat) (v : Value) (l : List S41) : Prop := Kd.S k41 41 w base (fun _ => True) v l
theorem OwnRun.C {w : World} {base : Nat} {v : Value} {l : List S41} (h : OwnRun w base v l) : RunC w v l := Kd.S_reads h
theorem copyRun_loop (l : List S41) (hf : ∀ o ∈ l, fineOp o) (hl : l.length ≤ 1048576) : ∀ (d k i : Nat), l.length = i + d → d + 1 ≤ k → redraftref05_CopyRun.l0 k l (l.take i) (i : Int) = some l := by
  intro d
  induction d with
  | zero =>
    intro k i h hk
    obtain ⟨k, rfl⟩ : ∃ m, k = m + 1 := ⟨k - 1, by omega⟩
    rw [redraftref05_CopyRun.l0, if_neg (by omega), List.take_of_length_le (by omega)]
  | succ d ih =>
    intro k i h hk
    obtain ⟨k, rfl⟩ : ∃ m, k = m + 1 := ⟨k - 1, by omega⟩
    have hi : i < l.length := by omega
    have q1 : (i : Int) < (l.length : Int) := by omega
    have q2 : (0 : Int) ≤ (i : Int) := by omega
    have q3 : (l.take i).length < 1466015503701 := by simp; omega
    have w : wrap64 ((i : Int) + 1) = ((i + 1 : Nat) : Int) := by rw [wrap_id (by omega) (by omega)]; omega
    obtain ⟨o, ho⟩ : ∃ o, o = l[i] := ⟨_, rfl⟩
    have e : rd_T41 l (i : Int) = o := by unfold rd_T41; rw [Int.toNat_natCast, List.getD_eq_getElem?_getD, List.getElem?_eq_getElem hi, ho]; rfl
    have hfo := hf o (by rw [ho]; exact List.getElem_mem hi)
    rw [redraftref05_CopyRun.l0, if_pos q1, if_pos q2, e, copy_is o hfo]
    simp only [Option.bind_some]
    rw [if_pos q3, w]
    have := ih k (i + 1) (by omega) (by omega)
    rw [List.take_succ_eq_append_getElem hi, ← ho] at this
    exact this
theorem copyRun_any (l : List S41) (v : Value) (w : World) (h : RunC w v l) (hf : ∀ o ∈ l, fineOp o) (hl : l.length ≤ 1048576) :
    Calls Tryd.prog 36 #[v] w fun e w' => ∃ u, e = .returned u ∧ OwnRun w' w.heap.size u l ∧ Below w.heap.size w w' := by
  obtain ⟨A, c, rfl, h1, h2⟩ := h
  have := copyRun_loop l hf hl l.length (l.length + 1) 0 (by omega) (by omega)
  exact redraftref05_CopyRun.calls (l.length + 1) A c l l w h2 h1 (by unfold redraftref05_CopyRun.f; exact this)
theorem over_len (o : S41) (e : Bool) (run : List S41) (ho : fineOp o) (hf : ∀ x ∈ run, fineOp x) : (overE o e run).1.f3.length ≤ 1048576 := by
  unfold overE
  by_cases c1 : ownE o = 0
  · rw [if_neg (fun h => h c1)]
    by_cases c2 : ownsE run = 0
    · rw [if_neg (fun h => h c2)]
      by_cases c3 : (run.foldl (overF e) (o, 0)).2 = 0
      · rw [if_pos c3]
        exact (over_good e run (o, 0) (owns_good c2 hf) (fun _ => ⟨c1, ho⟩) c3).fine.2
      · rw [if_neg c3]; exact Nat.zero_le _
    · rw [if_pos c2]; exact Nat.zero_le _
  · rw [if_pos c1]; exact Nat.zero_le _
end Go.Proofs.YtloccjkcmlkifaaDoor
end
section
namespace Go.Proofs.YtloccjkcmlkifaaDoor
open Go.RowKit Go.Proofs.YtloccjkcmlkifaaDoor.PAll Go.Proofs.YtloccjkcmlkifaaDoorW.PrintWords Go.Proofs.YtloccjkcmlkifaaDoorW.PrintLast
abbrev fineRun (l : List S41) : Prop := l.length ≤ 1048576 ∧ ∀ o ∈ l, fineOp o
set_option maxRecDepth 100000 in
set_option maxHeartbeats 8000000 in
theorem runs_over (s : S100) (va vb vr vo : Value) (w : World) (hG : GW w) (h : StepC w va vb vr vo s) (k4 : s.f0 = 4) (hf : fineOp s.f1) (hfr : fineRun s.f3) : Calls Tryd.prog 82 #[.agg (stA s va vb vr vo)] w (Yes w) := by
  obtain ⟨⟨A, c, rfl, h1, h2⟩, ⟨A', c', rfl, _, _⟩, ⟨B, d, rfl, h3, h4⟩, ⟨B', d', rfl, _, _⟩⟩ := h
  have S := Aside0.mk (St.init w (F := fun _ => True) (fun _ _ => trivial))
  have HA := Aside0.mk (opC_mk h1 h2); have HR := Aside0.mk (runC_mk h3 h4)
  have HG := Aside0.mk hG; have HF := Aside0.mk hf; have HFR := Aside0.mk hfr
  have HLN := Aside0.mk (show (overE s.f1 s.f5 s.f3).1.f3.length ≤ 4611686018427387904 by have := over_len s.f1 s.f5 s.f3 hf hfr.2; omega)
  have k4' : (s.f0 == 4) = true := beq_iff_eq.mpr k4
  clear h1 h2 h3 h4 hG hf hfr k4
  go_enter Tryd.func82, Tryd.ntmps82
  go_wp2_with (first | ((with_reducible refine gate_box rfl ?_); refine ev_box S ?_; clear S; intro _ _ S) | ((with_reducible refine gate_new rfl ?_); refine ev_new S 41 zA ?_; clear S; intro _ _ S) | ((with_reducible refine gate_load rfl ?_); first | refine ev_load S 0 ?_ | refine ev_load S 1 ?_ | refine ev_load S 2 ?_ | refine ev_load S 3 ?_) | ((with_reducible refine gate_load rfl ?_); first | refine ev_sub S 0 (opA s.f1 (.slice A s.f1.f3.length c)) ?_ | refine ev_sub S 1 (opA s.f1 (.slice A s.f1.f3.length c)) ?_) | ((with_reducible refine gate_load rfl ?_); first | refine ev_fld S 0 ?_ | refine ev_fld S 1 ?_ | refine ev_fld S 2 ?_ | refine ev_fld S 3 ?_) | ((with_reducible refine gate_st rfl ?_); (first | refine ev_store S 0 ?_ | refine ev_store S 1 ?_ | refine ev_store S 2 ?_); clear S; intro _ S) | (go_at_call 99; (with_reducible refine (rover_any s.f1 s.f5 s.f3 _ _ _ (HA.out.below S.out.below) (HR.out.below S.out.below) HF.out HFR.out.2 HFR.out.1).mono ?_); rintro e_ w7 ⟨v, rfl, hR, hb⟩; obtain ⟨Au, cu, rfl⟩ := hR.slice; replace S := Aside0.mk (S.out.addOp hb hR); clear hb hR) | (go_at_call 78; (with_reducible refine (one_any (overE s.f1 s.f5 s.f3).1 (overE s.f1 s.f5 s.f3).2 _ _ _ S.out.now.1.2.C S.out.now.2.C HLN.out).mono ?_); rintro e_ w7 ⟨rfl, hb⟩; replace S := Aside0.mk (S.out.step hb); clear hb))
  refine rg_start (n := 15) (fun W => St w W _ (fun _ => True)) [13] (S.out.weak fun _ _ => trivial) (fun _ h => h.drew) ?_
  clear S
  intro _ S
  refine pu_ 0 ?_; refine sb_ 1 0 (opA s.f1 (.slice A s.f1.f3.length c)) S (fun _ h => h) ?_; refine pu_ 3 ?_; refine fl_ 4 0 S (fun _ h => h) ?_; refine pu_ 5 ?_; refine fl_ 6 0 S (fun _ h => h) ?_
  refine re_ (rc_ 2 ?_ (rc_ 12 ?_ AllReadyL.nil))
  · intro K hK; refine kc_ #[.agg (opA s.f1 (.slice A s.f1.f3.length c))] ?_ Tryd.func22; refine (rcopy_any s.f1 _ _ (HA.out.below S.below) HF.out).mono ?_; rintro e_ w7 ⟨v, rfl, hR, hb⟩; have S' := S.addOp hb hR; obtain ⟨Ao, co, rfl⟩ := hR.slice; clear hb hR; refine ⟨_, rfl, hK.out _ _ (S'.weak fun _ _ => trivial) (fun _ => ?_)⟩; clear hK; clear S; have S := S'; clear S'; refine nr_ (by (simp only [Act.put, List.setIfInBounds_toArray, List.set_cons_zero, List.set_cons_succ]; rfl)) ?_
    refine re_ (rc_ 7 ?_ (rc_ 12 ?_ AllReadyL.nil))
    · intro K hK; refine kc_ #[.slice B s.f3.length d] ?_ Tryd.func36; refine (copyRun_any s.f3 _ _ (HR.out.below S.below) HFR.out.2 HFR.out.1).mono ?_; rintro e_ w7 ⟨v, rfl, hR, hb⟩; have S' := S.addS hb hR; obtain ⟨Ar, cr, rfl⟩ := Kd.S_slice hR; clear hb hR; refine ⟨_, rfl, hK.out _ _ (S'.weak fun _ _ => trivial) (fun _ => ?_)⟩; clear hK; clear S; have S := S'; clear S'; refine nr_ (by (simp only [Act.put, List.setIfInBounds_toArray, List.set_cons_zero, List.set_cons_succ]; rfl)) ?_
      refine re_ (rc_ 8 ?_ (rc_ 12 ?_ AllReadyL.nil))
      · intro K hK; refine kc_ #[.agg (opA s.f1 (.slice Ao s.f1.f3.length co)), .bool s.f5, .slice Ar s.f3.length cr] ?_ Tryd.func42; refine (over_any s.f1 s.f5 s.f3 _ _ _ (GW.below HG.out S.below) S.now.1.2.C (OwnRun.C S.now.2) HF.out HFR.out.2 HFR.out.1).mono ?_; rintro e_ w7 ⟨v, rfl, hR, hb⟩; have S' := S.addOp hb hR; obtain ⟨Av, cv, rfl⟩ := hR.slice; clear hb hR; refine ⟨_, rfl, hK.out _ _ (S'.weak fun _ _ => trivial) (fun _ => ?_)⟩; clear hK; clear S; have S := S'; clear S'; refine nr_ (by (simp only [Act.put, List.setIfInBounds_toArray, List.set_cons_zero, List.set_cons_succ]; rfl)) ?_
        refine pu_ 9 ?_; refine pu_ 10 ?_; refine pu_ 11 ?_
        refine re_ (rc_ 12 ?_ AllReadyL.nil)
        intro K hK; refine kn_ 41 zA S ?_; intro _ _ S'; refine hK.out _ _ ((S'.drop (List.sublist_cons_self _ _)).weak fun _ _ => trivial) (fun _ => ?_); clear hK; clear S; have S := S'; clear S'; refine nr_ (by (simp only [Act.put, List.setIfInBounds_toArray, List.set_cons_zero, List.set_cons_succ]; rfl)) ?_
        refine so_ 13 0 S ?_; clear S; intro _ S; refine pu_ 14 ?_; refine done_ (by kernel_rfl) ?_; have S := Aside0.mk S
        (go_wp2_with (first | ((with_reducible refine gate_box rfl ?_); refine ev_box S ?_; clear S; intro _ _ S) | ((with_reducible refine gate_new rfl ?_); refine ev_new S 41 zA ?_; clear S; intro _ _ S) | ((with_reducible refine gate_load rfl ?_); first | refine ev_load S 0 ?_ | refine ev_load S 1 ?_ | refine ev_load S 2 ?_ | refine ev_load S 3 ?_) | ((with_reducible refine gate_load rfl ?_); first | refine ev_sub S 0 (opA s.f1 (.slice A s.f1.f3.length c)) ?_ | refine ev_sub S 1 (opA s.f1 (.slice A s.f1.f3.length c)) ?_) | ((with_reducible refine gate_load rfl ?_); first | refine ev_fld S 0 ?_ | refine ev_fld S 1 ?_ | refine ev_fld S 2 ?_ | refine ev_fld S 3 ?_) | ((with_reducible refine gate_st rfl ?_); (first | refine ev_store S 0 ?_ | refine ev_store S 1 ?_ | refine ev_store S 2 ?_); clear S; intro _ S) | (go_at_call 99; (with_reducible refine (rover_any s.f1 s.f5 s.f3 _ _ _ (HA.out.below S.out.below) (HR.out.below S.out.below) HF.out HFR.out.2 HFR.out.1).mono ?_); rintro e_ w7 ⟨v, rfl, hR, hb⟩; obtain ⟨Au, cu, rfl⟩ := hR.slice; replace S := Aside0.mk (S.out.addOp hb hR); clear hb hR) | (go_at_call 78; (with_reducible refine (one_any (overE s.f1 s.f5 s.f3).1 (overE s.f1 s.f5 s.f3).2 _ _ _ S.out.now.1.2.C S.out.now.2.C HLN.out).mono ?_); rintro e_ w7 ⟨rfl, hb⟩; replace S := Aside0.mk (S.out.step hb); clear hb)); go_ret; exact ⟨rfl, S.out.below⟩)
      · intro K hK; refine kn_ 41 zA S ?_; intro _ _ S'; refine hK.out _ _ ((S'.drop (List.sublist_cons_self _ _)).weak fun _ _ => trivial) (fun _ => ?_); clear hK; clear S; have S := S'; clear S'; refine nr_ (by (simp only [Act.put, List.setIfInBounds_toArray, List.set_cons_zero, List.set_cons_succ]; rfl)) ?_
        refine cl_ 8 #[.agg (opA s.f1 (.slice Ao s.f1.f3.length co)), .bool s.f5, .slice Ar s.f3.length cr] ?_ Tryd.func42; refine (over_any s.f1 s.f5 s.f3 _ _ _ (GW.below HG.out S.below) S.now.1.2.C (OwnRun.C S.now.2) HF.out HFR.out.2 HFR.out.1).mono ?_; rintro e_ w7 ⟨v, rfl, hR, hb⟩; have S' := S.addOp hb hR; obtain ⟨Av, cv, rfl⟩ := hR.slice; clear hb hR; refine ⟨_, rfl, ((S'.drop (List.sublist_cons_self _ _)).weak fun _ _ => trivial), fun _ => ?_⟩; clear S; have S := S'; clear S'; refine nr_ (by (simp only [Act.put, List.setIfInBounds_toArray, List.set_cons_zero, List.set_cons_succ]; rfl)) ?_
        refine pu_ 9 ?_; refine pu_ 10 ?_; refine pu_ 11 ?_
        refine so_ 13 0 S ?_; clear S; intro _ S; refine pu_ 14 ?_; refine done_ (by kernel_rfl) ?_; have S := Aside0.mk S
        (go_wp2_with (first | ((with_reducible refine gate_box rfl ?_); refine ev_box S ?_; clear S; intro _ _ S) | ((with_reducible refine gate_new rfl ?_); refine ev_new S 41 zA ?_; clear S; intro _ _ S) | ((with_reducible refine gate_load rfl ?_); first | refine ev_load S 0 ?_ | refine ev_load S 1 ?_ | refine ev_load S 2 ?_ | refine ev_load S 3 ?_) | ((with_reducible refine gate_load rfl ?_); first | refine ev_sub S 0 (opA s.f1 (.slice A s.f1.f3.length c)) ?_ | refine ev_sub S 1 (opA s.f1 (.slice A s.f1.f3.length c)) ?_) | ((with_reducible refine gate_load rfl ?_); first | refine ev_fld S 0 ?_ | refine ev_fld S 1 ?_ | refine ev_fld S 2 ?_ | refine ev_fld S 3 ?_) | ((with_reducible refine gate_st rfl ?_); (first | refine ev_store S 0 ?_ | refine ev_store S 1 ?_ | refine ev_store S 2 ?_); clear S; intro _ S) | (go_at_call 99; (with_reducible refine (rover_any s.f1 s.f5 s.f3 _ _ _ (HA.out.below S.out.below) (HR.out.below S.out.below) HF.out HFR.out.2 HFR.out.1).mono ?_); rintro e_ w7 ⟨v, rfl, hR, hb⟩; obtain ⟨Au, cu, rfl⟩ := hR.slice; replace S := Aside0.mk (S.out.addOp hb hR); clear hb hR) | (go_at_call 78; (with_reducible refine (one_any (overE s.f1 s.f5 s.f3).1 (overE s.f1 s.f5 s.f3).2 _ _ _ S.out.now.1.2.C S.out.now.2.C HLN.out).mono ?_); rintro e_ w7 ⟨rfl, hb⟩; replace S := Aside0.mk (S.out.step hb); clear hb)); go_ret; exact ⟨rfl, S.out.below⟩)
    · intro K hK; refine kn_ 41 zA S ?_; intro _ _ S'; refine hK.out _ _ ((S'.drop (List.sublist_cons_self _ _)).weak fun _ _ => trivial) (fun _ => ?_); clear hK; clear S; have S := S'; clear S'; refine nr_ (by (simp only [Act.put, List.setIfInBounds_toArray, List.set_cons_zero, List.set_cons_succ]; rfl)) ?_
      refine cl_ 7 #[.slice B s.f3.length d] ?_ Tryd.func36; refine (copyRun_any s.f3 _ _ (HR.out.below S.below) HFR.out.2 HFR.out.1).mono ?_; rintro e_ w7 ⟨v, rfl, hR, hb⟩; have S' := S.addS hb hR; obtain ⟨Ar, cr, rfl⟩ := Kd.S_slice hR; clear hb hR; refine ⟨_, rfl, ((S'.drop (List.sublist_cons_self _ _)).weak fun _ _ => trivial), fun _ => ?_⟩; clear S; have S := S'; clear S'; refine nr_ (by (simp only [Act.put, List.setIfInBounds_toArray, List.set_cons_zero, List.set_cons_succ]; rfl)) ?_
      refine cl_ 8 #[.agg (opA s.f1 (.slice Ao s.f1.f3.length co)), .bool s.f5, .slice Ar s.f3.length cr] ?_ Tryd.func42; refine (over_any s.f1 s.f5 s.f3 _ _ _ (GW.below HG.out S.below) S.now.1.2.C (OwnRun.C S.now.2) HF.out HFR.out.2 HFR.out.1).mono ?_; rintro e_ w7 ⟨v, rfl, hR, hb⟩; have S' := S.addOp hb hR; obtain ⟨Av, cv, rfl⟩ := hR.slice; clear hb hR; refine ⟨_, rfl, ((S'.drop (List.sublist_cons_self _ _)).weak fun _ _ => trivial), fun _ => ?_⟩; clear S; have S := S'; clear S'; refine nr_ (by (simp only [Act.put, List.setIfInBounds_toArray, List.set_cons_zero, List.set_cons_succ]; rfl)) ?_
      refine pu_ 9 ?_; refine pu_ 10 ?_; refine pu_ 11 ?_
      refine so_ 13 0 S ?_; clear S; intro _ S; refine pu_ 14 ?_; refine done_ (by kernel_rfl) ?_; have S := Aside0.mk S
      (go_wp2_with (first | ((with_reducible refine gate_box rfl ?_); refine ev_box S ?_; clear S; intro _ _ S) | ((with_reducible refine gate_new rfl ?_); refine ev_new S 41 zA ?_; clear S; intro _ _ S) | ((with_reducible refine gate_load rfl ?_); first | refine ev_load S 0 ?_ | refine ev_load S 1 ?_ | refine ev_load S 2 ?_ | refine ev_load S 3 ?_) | ((with_reducible refine gate_load rfl ?_); first | refine ev_sub S 0 (opA s.f1 (.slice A s.f1.f3.length c)) ?_ | refine ev_sub S 1 (opA s.f1 (.slice A s.f1.f3.length c)) ?_) | ((with_reducible refine gate_load rfl ?_); first | refine ev_fld S 0 ?_ | refine ev_fld S 1 ?_ | refine ev_fld S 2 ?_ | refine ev_fld S 3 ?_) | ((with_reducible refine gate_st rfl ?_); (first | refine ev_store S 0 ?_ | refine ev_store S 1 ?_ | refine ev_store S 2 ?_); clear S; intro _ S) | (go_at_call 99; (with_reducible refine (rover_any s.f1 s.f5 s.f3 _ _ _ (HA.out.below S.out.below) (HR.out.below S.out.below) HF.out HFR.out.2 HFR.out.1).mono ?_); rintro e_ w7 ⟨v, rfl, hR, hb⟩; obtain ⟨Au, cu, rfl⟩ := hR.slice; replace S := Aside0.mk (S.out.addOp hb hR); clear hb hR) | (go_at_call 78; (with_reducible refine (one_any (overE s.f1 s.f5 s.f3).1 (overE s.f1 s.f5 s.f3).2 _ _ _ S.out.now.1.2.C S.out.now.2.C HLN.out).mono ?_); rintro e_ w7 ⟨rfl, hb⟩; replace S := Aside0.mk (S.out.step hb); clear hb)); go_ret; exact ⟨rfl, S.out.below⟩)
  · intro K hK; refine kn_ 41 zA S ?_; intro _ _ S'; refine hK.out _ _ ((S'.drop (List.sublist_cons_self _ _)).weak fun _ _ => trivial) (fun _ => ?_); clear hK; clear S; have S := S'; clear S'; refine nr_ (by (simp only [Act.put, List.setIfInBounds_toArray, List.set_cons_zero, List.set_cons_succ]; rfl)) ?_
    refine cl_ 2 #[.agg (opA s.f1 (.slice A s.f1.f3.length c))] ?_ Tryd.func22; refine (rcopy_any s.f1 _ _ (HA.out.below S.below) HF.out).mono ?_; rintro e_ w7 ⟨v, rfl, hR, hb⟩; have S' := S.addOp hb hR; obtain ⟨Ao, co, rfl⟩ := hR.slice; clear hb hR; refine ⟨_, rfl, ((S'.drop (List.sublist_cons_self _ _)).weak fun _ _ => trivial), fun _ => ?_⟩; clear S; have S := S'; clear S'; refine nr_ (by (simp only [Act.put, List.setIfInBounds_toArray, List.set_cons_zero, List.set_cons_succ]; rfl)) ?_
    refine cl_ 7 #[.slice B s.f3.length d] ?_ Tryd.func36; refine (copyRun_any s.f3 _ _ (HR.out.below S.below) HFR.out.2 HFR.out.1).mono ?_; rintro e_ w7 ⟨v, rfl, hR, hb⟩; have S' := S.addS hb hR; obtain ⟨Ar, cr, rfl⟩ := Kd.S_slice hR; clear hb hR; refine ⟨_, rfl, ((S'.drop (List.sublist_cons_self _ _)).weak fun _ _ => trivial), fun _ => ?_⟩; clear S; have S := S'; clear S'; refine nr_ (by (simp only [Act.put, List.setIfInBounds_toArray, List.set_cons_zero, List.set_cons_succ]; rfl)) ?_
    refine cl_ 8 #[.agg (opA s.f1 (.slice Ao s.f1.f3.length co)), .bool s.f5, .slice Ar s.f3.length cr] ?_ Tryd.func42; refine (over_any s.f1 s.f5 s.f3 _ _ _ (GW.below HG.out S.below) S.now.1.2.C (OwnRun.C S.now.2) HF.out HFR.out.2 HFR.out.1).mono ?_; rintro e_ w7 ⟨v, rfl, hR, hb⟩; have S' := S.addOp hb hR; obtain ⟨Av, cv, rfl⟩ := hR.slice; clear hb hR; refine ⟨_, rfl, ((S'.drop (List.sublist_cons_self _ _)).weak fun _ _ => trivial), fun _ => ?_⟩; clear S; have S := S'; clear S'; refine nr_ (by (simp only [Act.put, List.setIfInBounds_toArray, List.set_cons_zero, List.set_cons_succ]; rfl)) ?_
    refine pu_ 9 ?_; refine pu_ 10 ?_; refine pu_ 11 ?_
    refine so_ 13 0 S ?_; clear S; intro _ S; refine pu_ 14 ?_; refine done_ (by kernel_rfl) ?_; have S := Aside0.mk S
    (go_wp2_with (first | ((with_reducible refine gate_box rfl ?_); refine ev_box S ?_; clear S; intro _ _ S) | ((with_reducible refine gate_new rfl ?_); refine ev_new S 41 zA ?_; clear S; intro _ _ S) | ((with_reducible refine gate_load rfl ?_); first | refine ev_load S 0 ?_ | refine ev_load S 1 ?_ | refine ev_load S 2 ?_ | refine ev_load S 3 ?_) | ((with_reducible refine gate_load rfl ?_); first | refine ev_sub S 0 (opA s.f1 (.slice A s.f1.f3.length c)) ?_ | refine ev_sub S 1 (opA s.f1 (.slice A s.f1.f3.length c)) ?_) | ((with_reducible refine gate_load rfl ?_); first | refine ev_fld S 0 ?_ | refine ev_fld S 1 ?_ | refine ev_fld S 2 ?_ | refine ev_fld S 3 ?_) | ((with_reducible refine gate_st rfl ?_); (first | refine ev_store S 0 ?_ | refine ev_store S 1 ?_ | refine ev_store S 2 ?_); clear S; intro _ S) | (go_at_call 99; (with_reducible refine (rover_any s.f1 s.f5 s.f3 _ _ _ (HA.out.below S.out.below) (HR.out.below S.out.below) HF.out HFR.out.2 HFR.out.1).mono ?_); rintro e_ w7 ⟨v, rfl, hR, hb⟩; obtain ⟨Au, cu, rfl⟩ := hR.slice; replace S := Aside0.mk (S.out.addOp hb hR); clear hb hR) | (go_at_call 78; (with_reducible refine (one_any (overE s.f1 s.f5 s.f3).1 (overE s.f1 s.f5 s.f3).2 _ _ _ S.out.now.1.2.C S.out.now.2.C HLN.out).mono ?_); rintro e_ w7 ⟨rfl, hb⟩; replace S := Aside0.mk (S.out.step hb); clear hb)); go_ret; exact ⟨rfl, S.out.below⟩)
end Go.Proofs.YtloccjkcmlkifaaDoor
end
section
namespace Go.Proofs.YtloccjkcmlkifaaDoor
open Go.RowKit Go.Proofs.YtloccjkcmlkifaaDoor.PAll Go.Proofs.YtloccjkcmlkifaaDoorW.PrintWords Go.Proofs.YtloccjkcmlkifaaDoorW.PrintLast
abbrev PlaysYes (s : S100) : Prop := ∀ (va vb vr vo : Value) (w : World), GW w → StepC w va vb vr vo s → Calls Tryd.prog 68 #[.agg (stA s va vb vr vo)] w (Yes w)
abbrev RunsYes (s : S100) : Prop := ∀ (va vb vr vo : Value) (w : World), GW w → StepC w va vb vr vo s → Calls Tryd.prog 82 #[.agg (stA s va vb vr vo)] w (Yes w)
set_option maxRecDepth 100000 in
set_option maxHeartbeats 4000000 in
theorem plays_runs (s : S100) (hk : s.f0 = 4 ∨ s.f0 = 5 ∨ s.f0 = 6) (hp : RunsYes s) : PlaysYes s := by
  intro va vb vr vo w hG h
  have S := Aside0.mk (St.init w (F := fun _ => True) (fun _ _ => trivial))
  have HG := Aside0.mk hG; have HS := Aside0.mk h; have HP := Aside0.mk hp
  clear hG h hp
  have c1 : (s.f0 == 1) = false := beq_eq_false_iff_ne.mpr (by omega)
  have c2 : (s.f0 == 2) = false := beq_eq_false_iff_ne.mpr (by omega)
  have c3 : (s.f0 == 3) = false := beq_eq_false_iff_ne.mpr (by omega)
  have hk' : (s.f0 == 4) = true ∨ (s.f0 == 4) = false ∧ (s.f0 == 5) = true ∨ (s.f0 == 4) = false ∧ (s.f0 == 5) = false ∧ (s.f0 == 6) = true := by
    rcases hk with h | h | h
    · exact .inl (beq_iff_eq.mpr h)
    · exact .inr (.inl ⟨beq_eq_false_iff_ne.mpr (by omega), beq_iff_eq.mpr h⟩)
    · exact .inr (.inr ⟨beq_eq_false_iff_ne.mpr (by omega), beq_eq_false_iff_ne.mpr (by omega), beq_iff_eq.mpr h⟩)
  clear hk
  rcases hk' with c4 | ⟨c4, c5⟩ | ⟨c4, c5, c6⟩
  all_goals
    go_enter Tryd.func68, Tryd.ntmps68
    go_wp2_with (first | ((with_reducible refine gate_box rfl ?_); refine ev_box S ?_; clear S; intro _ _ S) | ((with_reducible refine gate_load rfl ?_); first | refine ev_load S 0 ?_ (hw := by first | exact wanted_plain rfl | (refine wanted_on rfl ?_; first | (simp [yielded]; done) | rfl)) | refine ev_load S 1 ?_ (hw := by first | exact wanted_plain rfl | (refine wanted_on rfl ?_; first | (simp [yielded]; done) | rfl)) | refine ev_load S 2 ?_ (hw := by first | exact wanted_plain rfl | (refine wanted_on rfl ?_; first | (simp [yielded]; done) | rfl)) | refine ev_load S 3 ?_ (hw := by first | exact wanted_plain rfl | (refine wanted_on rfl ?_; first | (simp [yielded]; done) | rfl))) | ((with_reducible refine gate_load rfl ?_); first | refine ev_fld S 0 ?_ (hw := by first | exact wanted_plain rfl | (refine wanted_on rfl ?_; first | (simp [yielded]; done) | rfl)) | refine ev_fld S 1 ?_ (hw := by first | exact wanted_plain rfl | (refine wanted_on rfl ?_; first | (simp [yielded]; done) | rfl)) | refine ev_fld S 2 ?_ (hw := by first | exact wanted_plain rfl | (refine wanted_on rfl ?_; first | (simp [yielded]; done) | rfl)) | refine ev_fld S 3 ?_ (hw := by first | exact wanted_plain rfl | (refine wanted_on rfl ?_; first | (simp [yielded]; done) | rfl))) | (go_at_call 82; (with_reducible refine (HP.out _ _ _ _ _ (GW.below HG.out S.out.below) (HS.out.below S.out.below)).mono ?_); rintro e_ w7 ⟨rfl, hb⟩; replace S := Aside0.mk (S.out.step hb); clear hb))
    go_ret
    exact ⟨rfl, S.out.below⟩
theorem elem_S {w : World} {A : Option Addr} {l : List S100} (h : k100.C w A l.length l) (i : Nat) (hi : i < l.length) :
    ∃ ad va vb vr vo, A = some ad ∧ (∀ W, Below w.heap.size w W → atL W (ad.add (i * 24)) 0 (stA (l.getD i z100) va vb vr vo).toList) ∧ StepC w va vb vr vo (l.getD i z100) := by
  obtain ⟨ad, c, e, _, hK, hc⟩ := Kd.C_get h z100 (i : Int) (by omega) (by omega)
  rw [Int.toNat_natCast] at hK hc
  obtain ⟨A6, c6, A15, c15, A19, c19, A20, c20, rfl, l6, g6, l15, g15, l19, g19, l20, g20⟩ := k100_open hK
  refine ⟨ad, _, _, _, _, e, fun W hb => atL_mk fun j v hj => ?_, ⟨opC_mk l6 g6, opC_mk l15 g15, runC_mk l19 g19, runC_mk l20 g20⟩⟩
  have := hc j v hj
  have h2 : W.cell? (ad.add (i * 24 + j)) = some v := pw_cell_below hb this
  have h3 : (ad.add (i * 24)).add (0 + j) = ad.add (i * 24 + j) := by
    by_cases hj0 : j = 0
    · subst hj0
      rfl
    · rw [add_field ad (i * 24) j (by omega)]
      unfold Addr.add
      rw [if_neg (by omega), Nat.zero_add]
  rw [h3]; exact h2
abbrev zS : Array Value := #[.int .i64 0, .int .i64 0, .int .i64 0, .int .i64 0, .int .i64 0, .string ⟨#[]⟩, .slice none 0 0, .int .i64 0, .int .i64 0, .bool false, .int .i64 0, .int .i64 0, .int .i64 0, .int .i64 0, .string ⟨#[]⟩, .slice none 0 0, .int .i64 0, .int .i64 0, .bool false, .slice none 0 0, .slice none 0 0, .bool false, .int .i64 0, .int .i64 0]
set_option maxRecDepth 100000 in
set_option maxHeartbeats 4000000 in
theorem played_any (l : List S100) (lo hi : Int) (A : Option Addr) (c : Nat) (w : World) (hG : GW w) (hl : l.length ≤ 1048576) (h : k100.C w A l.length l) (hP : ∀ s ∈ l, lo ≤ s.f0 → s.f0 ≤ hi → PlaysYes s) :
    Calls Tryd.prog 51 #[.slice A l.length c, .int .i64 lo, .int .i64 hi] w (Yes w) := by
  have HE := Aside0.mk (fun i hi => elem_S h i hi)
  have HG := Aside0.mk hG; have HP := Aside0.mk hP
  obtain ⟨n, hn⟩ : ∃ n, n = l.length := ⟨_, rfl⟩
  rw [← hn] at hl ⊢
  have HN := Aside0.mk hn
  have S := Aside0.mk (St.init w (F := fun _ => True) (fun _ _ => trivial))
  clear hG hP h hn
  go_enter Tryd.func51, Tryd.ntmps51
  go_wp2_with (first | ((with_reducible refine gate_box rfl ?_); refine ev_box S ?_; clear S; intro _ _ S) | ((with_reducible refine gate_new rfl ?_); refine ev_new S 100 zS ?_; clear S; intro _ _ S) | ((with_reducible refine gate_load rfl ?_); first | refine ev_load S 0 ?_ (hw := by first | exact wanted_plain rfl | (refine wanted_on rfl ?_; first | (simp [yielded]; done) | rfl)) | refine ev_load S 1 ?_ (hw := by first | exact wanted_plain rfl | (refine wanted_on rfl ?_; first | (simp [yielded]; done) | rfl)) | refine ev_load S 2 ?_ (hw := by first | exact wanted_plain rfl | (refine wanted_on rfl ?_; first | (simp [yielded]; done) | rfl)) | refine ev_load S 3 ?_ (hw := by first | exact wanted_plain rfl | (refine wanted_on rfl ?_; first | (simp [yielded]; done) | rfl))) | ((with_reducible refine gate_load rfl ?_); first | refine ev_fld S 0 ?_ (hw := by first | exact wanted_plain rfl | (refine wanted_on rfl ?_; first | (simp [yielded]; done) | rfl)) | refine ev_fld S 1 ?_ (hw := by first | exact wanted_plain rfl | (refine wanted_on rfl ?_; first | (simp [yielded]; done) | rfl)) | refine ev_fld S 2 ?_ (hw := by first | exact wanted_plain rfl | (refine wanted_on rfl ?_; first | (simp [yielded]; done) | rfl)) | refine ev_fld S 3 ?_ (hw := by first | exact wanted_plain rfl | (refine wanted_on rfl ?_; first | (simp [yielded]; done) | rfl))) | ((with_reducible refine gate_load rfl ?_); refine ev_ext _ (HAT.out _ S.out.below) ?_) | ((with_reducible refine gate_st rfl ?_); (first | refine ev_store S 0 ?_ | refine ev_store S 1 ?_ | refine ev_store S 2 ?_); clear S; intro _ S) | (go_at_call 68; (with_reducible refine (HPX.out _ _ _ _ _ (GW.below HG.out S.out.below) (HST.out.below S.out.below)).mono ?_); rintro e_ w7 ⟨rfl, hb⟩; replace S := Aside0.mk (S.out.step hb); clear hb))
  go_loopw [7] (fun i' wr => ∃ k : Nat, k ≤ n ∧ i' = .int .i64 (k : Int) ∧ Aside0 (St w wr [] (fun _ => True))) (fun i' _ => n - (intOf i').toNat)
  case atStart => exact ⟨0, Nat.zero_le _, rfl, S⟩
  case round =>
    obtain ⟨k, hk, rfl, HA⟩ := hrel
    have S := HA
    by_cases hlt : k < n
    · have hlt' : k < l.length := by rw [← HN.out]; exact hlt
      obtain ⟨ad, va, vb, vr, vo, rfl, hat, hst⟩ := HE.out k hlt'
      have hm : l.getD k z100 ∈ l := by rw [List.getD_eq_getElem?_getD, List.getElem?_eq_getElem hlt']; exact List.getElem_mem hlt'
      obtain ⟨x, hx⟩ : ∃ x, x = l.getD k z100 := ⟨_, rfl⟩
      rw [← hx] at hat hst hm
      obtain ⟨⟨Aa, ca, rfl, p1, p2⟩, ⟨Ab, cb, rfl, p3, p4⟩, ⟨Ar, cr, rfl, p5, p6⟩, ⟨Ao, co, rfl, p7, p8⟩⟩ := hst
      have HAT := Aside0.mk hat
      have HST := Aside0.mk (show StepC w _ _ _ _ x from ⟨opC_mk p1 p2, opC_mk p3 p4, runC_mk p5 p6, runC_mk p7 p8⟩)
      clear p1 p2 p3 p4 p5 p6 p7 p8
      have hpx := HP.out x hm
      clear hat hx hm
      have hlk : (k : Int) < (n : Int) := by omega
      have hk0 : (0 : Int) ≤ (k : Int) := by omega
      by_cases c1 : lo ≤ x.f0
      · have c1' : decide (lo ≤ x.f0) = true := decide_eq_true c1
        by_cases c2 : x.f0 ≤ hi
        · have c2' : decide (x.f0 ≤ hi) = true := decide_eq_true c2
          have HPX := Aside0.mk (hpx c1 c2)
          clear c1 c2 hpx
          go_wp2_with (first | ((with_reducible refine gate_box rfl ?_); refine ev_box S ?_; clear S; intro _ _ S) | ((with_reducible refine gate_new rfl ?_); refine ev_new S 100 zS ?_; clear S; intro _ _ S) | ((with_reducible refine gate_load rfl ?_); first | refine ev_load S 0 ?_ (hw := by first | exact wanted_plain rfl | (refine wanted_on rfl ?_; first | (simp [yielded]; done) | rfl)) | refine ev_load S 1 ?_ (hw := by first | exact wanted_plain rfl | (refine wanted_on rfl ?_; first | (simp [yielded]; done) | rfl)) | refine ev_load S 2 ?_ (hw := by first | exact wanted_plain rfl | (refine wanted_on rfl ?_; first | (simp [yielded]; done) | rfl)) | refine ev_load S 3 ?_ (hw := by first | exact wanted_plain rfl | (refine wanted_on rfl ?_; first | (simp [yielded]; done) | rfl))) | ((with_reducible refine gate_load rfl ?_); first | refine ev_fld S 0 ?_ (hw := by first | exact wanted_plain rfl | (refine wanted_on rfl ?_; first | (simp [yielded]; done) | rfl)) | refine ev_fld S 1 ?_ (hw := by first | exact wanted_plain rfl | (refine wanted_on rfl ?_; first | (simp [yielded]; done) | rfl)) | refine ev_fld S 2 ?_ (hw := by first | exact wanted_plain rfl | (refine wanted_on rfl ?_; first | (simp [yielded]; done) | rfl)) | refine ev_fld S 3 ?_ (hw := by first | exact wanted_plain rfl | (refine wanted_on rfl ?_; first | (simp [yielded]; done) | rfl))) | ((with_reducible refine gate_load rfl ?_); refine ev_ext _ (HAT.out _ S.out.below) ?_) | ((with_reducible refine gate_st rfl ?_); (first | refine ev_store S 0 ?_ | refine ev_store S 1 ?_ | refine ev_store S 2 ?_); clear S; intro _ S) | (go_at_call 68; (with_reducible refine (HPX.out _ _ _ _ _ (GW.below HG.out S.out.below) (HST.out.below S.out.below)).mono ?_); rintro e_ w7 ⟨rfl, hb⟩; replace S := Aside0.mk (S.out.step hb); clear hb))
          go_roundw
          case rel => exact ⟨k + 1, by omega, by go_num, ⟨(S.out.drop (List.nil_sublist _)).weak fun _ _ => trivial⟩⟩
          case measure => simp [intOf]; omega
        · have c2' : decide (x.f0 ≤ hi) = false := decide_eq_false c2
          clear c1 c2 hpx
          go_wp2_with (first | ((with_reducible refine gate_box rfl ?_); refine ev_box S ?_; clear S; intro _ _ S) | ((with_reducible refine gate_new rfl ?_); refine ev_new S 100 zS ?_; clear S; intro _ _ S) | ((with_reducible refine gate_load rfl ?_); first | refine ev_load S 0 ?_ (hw := by first | exact wanted_plain rfl | (refine wanted_on rfl ?_; first | (simp [yielded]; done) | rfl)) | refine ev_load S 1 ?_ (hw := by first | exact wanted_plain rfl | (refine wanted_on rfl ?_; first | (simp [yielded]; done) | rfl)) | refine ev_load S 2 ?_ (hw := by first | exact wanted_plain rfl | (refine wanted_on rfl ?_; first | (simp [yielded]; done) | rfl)) | refine ev_load S 3 ?_ (hw := by first | exact wanted_plain rfl | (refine wanted_on rfl ?_; first | (simp [yielded]; done) | rfl))) | ((with_reducible refine gate_load rfl ?_); first | refine ev_fld S 0 ?_ (hw := by first | exact wanted_plain rfl | (refine wanted_on rfl ?_; first | (simp [yielded]; done) | rfl)) | refine ev_fld S 1 ?_ (hw := by first | exact wanted_plain rfl | (refine wanted_on rfl ?_; first | (simp [yielded]; done) | rfl)) | refine ev_fld S 2 ?_ (hw := by first | exact wanted_plain rfl | (refine wanted_on rfl ?_; first | (simp [yielded]; done) | rfl)) | refine ev_fld S 3 ?_ (hw := by first | exact wanted_plain rfl | (refine wanted_on rfl ?_; first | (simp [yielded]; done) | rfl))) | ((with_reducible refine gate_load rfl ?_); refine ev_ext _ (HAT.out _ S.out.below) ?_) | ((with_reducible refine gate_st rfl ?_); (first | refine ev_store S 0 ?_ | refine ev_store S 1 ?_ | refine ev_store S 2 ?_); clear S; intro _ S) | (go_at_call 68; (with_reducible refine (HPX.out _ _ _ _ _ (GW.below HG.out S.out.below) (HST.out.below S.out.below)).mono ?_); rintro e_ w7 ⟨rfl, hb⟩; replace S := Aside0.mk (S.out.step hb); clear hb))
          go_roundw
          case rel => exact ⟨k + 1, by omega, by go_num, ⟨(S.out.drop (List.nil_sublist _)).weak fun _ _ => trivial⟩⟩
          case measure => simp [intOf]; omega
      · have c1' : decide (lo ≤ x.f0) = false := decide_eq_false c1
        clear c1 hpx
        go_wp2_with (first | ((with_reducible refine gate_box rfl ?_); refine ev_box S ?_; clear S; intro _ _ S) | ((with_reducible refine gate_new rfl ?_); refine ev_new S 100 zS ?_; clear S; intro _ _ S) | ((with_reducible refine gate_load rfl ?_); first | refine ev_load S 0 ?_ (hw := by first | exact wanted_plain rfl | (refine wanted_on rfl ?_; first | (simp [yielded]; done) | rfl)) | refine ev_load S 1 ?_ (hw := by first | exact wanted_plain rfl | (refine wanted_on rfl ?_; first | (simp [yielded]; done) | rfl)) | refine ev_load S 2 ?_ (hw := by first | exact wanted_plain rfl | (refine wanted_on rfl ?_; first | (simp [yielded]; done) | rfl)) | refine ev_load S 3 ?_ (hw := by first | exact wanted_plain rfl | (refine wanted_on rfl ?_; first | (simp [yielded]; done) | rfl))) | ((with_reducible refine gate_load rfl ?_); first | refine ev_fld S 0 ?_ (hw := by first | exact wanted_plain rfl | (refine wanted_on rfl ?_; first | (simp [yielded]; done) | rfl)) | refine ev_fld S 1 ?_ (hw := by first | exact wanted_plain rfl | (refine wanted_on rfl ?_; first | (simp [yielded]; done) | rfl)) | refine ev_fld S 2 ?_ (hw := by first | exact wanted_plain rfl | (refine wanted_on rfl ?_; first | (simp [yielded]; done) | rfl)) | refine ev_fld S 3 ?_ (hw := by first | exact wanted_plain rfl | (refine wanted_on rfl ?_; first | (simp [yielded]; done) | rfl))) | ((with_reducible refine gate_load rfl ?_); refine ev_ext _ (HAT.out _ S.out.below) ?_) | ((with_reducible refine gate_st rfl ?_); (first | refine ev_store S 0 ?_ | refine ev_store S 1 ?_ | refine ev_store S 2 ?_); clear S; intro _ S) | (go_at_call 68; (with_reducible refine (HPX.out _ _ _ _ _ (GW.below HG.out S.out.below) (HST.out.below S.out.below)).mono ?_); rintro e_ w7 ⟨rfl, hb⟩; replace S := Aside0.mk (S.out.step hb); clear hb))
        go_roundw
        case rel => exact ⟨k + 1, by omega, by go_num, ⟨(S.out.drop (List.nil_sublist _)).weak fun _ _ => trivial⟩⟩
        case measure => simp [intOf]; omega
    · obtain rfl : k = n := by omega
      go_wp2_with (first | ((with_reducible refine gate_box rfl ?_); refine ev_box S ?_; clear S; intro _ _ S) | ((with_reducible refine gate_new rfl ?_); refine ev_new S 100 zS ?_; clear S; intro _ _ S) | ((with_reducible refine gate_load rfl ?_); first | refine ev_load S 0 ?_ (hw := by first | exact wanted_plain rfl | (refine wanted_on rfl ?_; first | (simp [yielded]; done) | rfl)) | refine ev_load S 1 ?_ (hw := by first | exact wanted_plain rfl | (refine wanted_on rfl ?_; first | (simp [yielded]; done) | rfl)) | refine ev_load S 2 ?_ (hw := by first | exact wanted_plain rfl | (refine wanted_on rfl ?_; first | (simp [yielded]; done) | rfl)) | refine ev_load S 3 ?_ (hw := by first | exact wanted_plain rfl | (refine wanted_on rfl ?_; first | (simp [yielded]; done) | rfl))) | ((with_reducible refine gate_load rfl ?_); first | refine ev_fld S 0 ?_ (hw := by first | exact wanted_plain rfl | (refine wanted_on rfl ?_; first | (simp [yielded]; done) | rfl)) | refine ev_fld S 1 ?_ (hw := by first | exact wanted_plain rfl | (refine wanted_on rfl ?_; first | (simp [yielded]; done) | rfl)) | refine ev_fld S 2 ?_ (hw := by first | exact wanted_plain rfl | (refine wanted_on rfl ?_; first | (simp [yielded]; done) | rfl)) | refine ev_fld S 3 ?_ (hw := by first | exact wanted_plain rfl | (refine wanted_on rfl ?_; first | (simp [yielded]; done) | rfl))) | ((with_reducible refine gate_load rfl ?_); refine ev_ext _ (HAT.out _ S.out.below) ?_) | ((with_reducible refine gate_st rfl ?_); (first | refine ev_store S 0 ?_ | refine ev_store S 1 ?_ | refine ev_store S 2 ?_); clear S; intro _ S) | (go_at_call 68; (with_reducible refine (HPX.out _ _ _ _ _ (GW.below HG.out S.out.below) (HST.out.below S.out.below)).mono ?_); rintro e_ w7 ⟨rfl, hb⟩; replace S := Aside0.mk (S.out.step hb); clear hb))
      go_ret
      exact ⟨rfl, S.out.below⟩
end Go.Proofs.YtloccjkcmlkifaaDoor
end
section
namespace Go.Proofs.YtloccjkcmlkifaaDoor
open Go.RowKit Go.Proofs.YtloccjkcmlkifaaDoor.PAll Go.Proofs.YtloccjkcmlkifaaDoorW.PrintWords Go.Proofs.YtloccjkcmlkifaaDoorW.PrintLast
abbrev insO (c n at_ : Int) (t : ByteArray) : S41 := ⟨⟨⟨c, n⟩, 1⟩, at_, t, [], ⟨0, 0⟩, false⟩
theorem opC_nil (w : World) (o : S41) (h : o.f3 = []) : OpC w (.slice none 0 0) o := by
  have e : k94.C w none 0 [] := by
    have := (opR_nil w 0).C
    obtain ⟨A, c, e, _, h⟩ := this
    injection e with e1 _ _
    rw [← e1] at h; exact h
  exact ⟨none, 0, by rw [h]; rfl, by rw [h]; exact Nat.le_refl _, by rw [h]; exact e⟩
theorem ins_any (c n at_ : Int) (t : ByteArray) (w : World) : Calls Tryd.prog 25 #[.int .i64 c, .int .i64 n, .int .i64 at_, .string t] w fun e w' => e = .returned (.agg (opA (insO c n at_ t) (.slice none 0 0))) ∧ Below w.heap.size w w' := by
  have S := Aside0.mk (St.init w (F := fun _ => True) (fun _ _ => trivial))
  go_enter Tryd.func25, Tryd.ntmps25
  go_wp2_with (first | ((with_reducible refine gate_new rfl ?_); refine ev_new S 41 zA ?_; clear S; intro _ _ S) | ((with_reducible refine gate_st rfl ?_); (first | refine ev_store S 0 ?_ | refine ev_store S 1 ?_ | refine ev_store S 2 ?_); clear S; intro _ S))
  exact bodyPost_ret (results_cell_row rfl _ _ _ 41 _ (0, 0) _ rfl (S.out.at_ 0 rfl) Tryd.underlying41 rfl (by kernel_rfl)) rfl ⟨rfl, S.out.below⟩
end Go.Proofs.YtloccjkcmlkifaaDoor
end
section
namespace Go.Proofs.YtloccjkcmlkifaaDoor
open Go.RowKit Go.Proofs.YtloccjkcmlkifaaDoor.PAll Go.Proofs.YtloccjkcmlkifaaDoorW.PrintWords Go.Proofs.YtloccjkcmlkifaaDoorW.PrintLast
theorem plays_over (s : S100) (hf : fineStep s) (h : s.f0 = 4) : PlaysYes s :=
  plays_runs s (.inl h) fun va vb vr vo w hG hS => runs_over s va vb vr vo w hG hS h hf.1 hf.2.2.1
abbrev o1 : S41 := insO 1 1 2 ⟨#[120]⟩
abbrev o2 : S41 := insO 2 1 2 ⟨#[97, 98]⟩
abbrev o3 : S41 := insO 2 2 4 ⟨#[99]⟩
theorem over_awake : overE o1 true [o2, o3] = (⟨⟨⟨1, 1⟩, 1⟩, 5, ⟨#[120]⟩, [], ⟨0, 0⟩, false⟩, 0) := by kernel_rfl
set_option maxRecDepth 100000 in
set_option maxHeartbeats 4000000 in
theorem XformOvers_any (l : List S100) (A : Option Addr) (c : Nat) (w : World) (hG : GW w) (hl : l.length ≤ 1048576) (h : k100.C w A l.length l) (hf : ∀ s ∈ l, fineStep s) : Calls Tryd.prog 13 #[.slice A l.length c] w (Yes w) := by
  have S := Aside0.mk (St.init w (F := fun _ => True) (fun _ _ => trivial))
  have HG := Aside0.mk hG; have HC := Aside0.mk h; have HL := Aside0.mk hl
  have HP : Aside0 (∀ s ∈ l, 4 ≤ s.f0 → s.f0 ≤ 4 → PlaysYes s) := ⟨fun s hs h1 h2 => plays_over s (hf s hs) (by omega)⟩
  have HF : Aside0 (∀ x ∈ [o2, o3], fineOp x) := ⟨by
    intro x hx
    simp only [List.mem_cons, List.not_mem_nil, or_false] at hx
    rcases hx with rfl | rfl <;> exact ⟨by decide, by decide⟩⟩
  have HFO : Aside0 (fineOp o1) := ⟨⟨by decide, by decide⟩⟩
  clear hG h hl hf
  go_enter Tryd.func13, Tryd.ntmps13
  go_wp2_with (first | (go_at_call 25; (with_reducible refine (ins_any _ _ _ _ _).mono ?_); rintro e_ w7 ⟨rfl, hb⟩; replace S := Aside0.mk (S.out.step hb); clear hb) | (refine ev_lit S (opA o2 (.slice none 0 0) ++ opA o3 (.slice none 0 0)) 2 ?_; clear S; intro _ _ S) | (go_at_call 42; (with_reducible refine (over_any o1 true [o2, o3] _ _ _ (GW.below HG.out S.out.below) (opC_nil _ o1 rfl) (runC_box2 (S.out.at_ 0 rfl) (opC_nil _ o2 rfl) (opC_nil _ o3 rfl)) HFO.out HF.out (by decide)).mono ?_); rintro e_ w7 ⟨v, rfl, hR, hb⟩; rw [over_awake] at hR ⊢; obtain ⟨Ao, co, rfl⟩ := hR.slice; replace S := Aside0.mk (S.out.addOp hb hR); clear hb hR) | ((with_reducible refine gate_new rfl ?_); refine ev_new S 41 zA ?_; clear S; intro _ _ S) | ((with_reducible refine gate_st rfl ?_); (first | refine ev_store S 0 ?_ | refine ev_store S 1 ?_ | refine ev_store S 2 ?_); clear S; intro _ S) | ((with_reducible refine gate_load rfl ?_); first | refine ev_fld S 0 ?_ (hw := by first | exact wanted_plain rfl | (refine wanted_on rfl ?_; first | (simp [yielded]; done) | rfl)) | refine ev_fld S 1 ?_ (hw := by first | exact wanted_plain rfl | (refine wanted_on rfl ?_; first | (simp [yielded]; done) | rfl)) | refine ev_fld S 2 ?_ (hw := by first | exact wanted_plain rfl | (refine wanted_on rfl ?_; first | (simp [yielded]; done) | rfl)) | refine ev_fld S 3 ?_ (hw := by first | exact wanted_plain rfl | (refine wanted_on rfl ?_; first | (simp [yielded]; done) | rfl))) | (go_at_call 23; (with_reducible refine (num_any _ _).mono ?_); rintro e_ w7 ⟨rfl, hb⟩; replace S := Aside0.mk (S.out.step hb); clear hb) | (go_at_call 51; (with_reducible refine (played_any l 4 4 A c _ (GW.below HG.out S.out.below) HL.out (Kd.C_below HC.out S.out.below) HP.out).mono ?_); rintro e_ w7 ⟨rfl, hb⟩; replace S := Aside0.mk (S.out.step hb); clear hb))
  go_ret
  exact ⟨rfl, S.out.below⟩
end Go.Proofs.YtloccjkcmlkifaaDoor
end
