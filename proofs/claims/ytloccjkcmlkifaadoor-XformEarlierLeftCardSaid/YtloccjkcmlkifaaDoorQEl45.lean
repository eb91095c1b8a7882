/- XformEarlierLeft_card, part 45. -/
import Derived.Test.YtloccjkcmlkifaaDoorQEl44
import Derived.Test.YtloccjkcmlkifaaDoorQEl42

section
/- XformEarlierLeft: its loop: every cell is the one that is wanted. (Printed by tools/gen_eloop.py: the frame has 168 slots.) -/
namespace Go.Proofs.YtloccjkcmlkifaaDoor
open Go.RowKit Go.Proofs.YtloccjkcmlkifaaDoor.PAll Go.Proofs.YtloccjkcmlkifaaDoorW.PrintWords Go.Proofs.YtloccjkcmlkifaaDoorW.PrintLast

section
variable {P : Program} {ops : Array Oper} {Q : Exit → Act → World → Prop} {md : Region.Mode} {S : World → Prop} {ds : List Nat} {fuel : Nat} {l : Array Bool} {a a' : Act} {w w0 : World} {oi : Oper} {bs : List Bx} {F : World → Prop}
theorem sc_ (i k : Nat) {p : Tmp} {ty : TypeId} {vo : Operand} {u : Value} {g j : Nat} {t : TypeId} {cs : Array Value} (hSt : St w0 w bs F)
 (h : ∀ w', St w0 w' (bs.set k (g, t, cs.setIfInBounds j u)) F → wpAnyLast P md ops Q S ds fuel (l.setIfInBounds i true) a w')
 (hi : ops[i]? = some oi := by rfl) (hN : oi.dst = none := by rfl) (hc : Region.ready md ops l = [i] := by kernel_rfl) (hd : i ∈ ds := by decide)
 (ho : oi.op = .store ty (.tmp p) vo := by rfl) (hp : a.eval (.tmp p) = .pointer (some ⟨g, j, none⟩) := by rfl) (e : bs[k]? = some (g, t, cs) := by rfl)
 (hw : Region.wanted oi (yielded ops a.tmps) = true := by first | exact wanted_plain rfl | (refine wanted_on rfl ?_; simp [yielded]))
 (hrun : (∀ k, w.cell? ⟨g, k, none⟩ = cs[k]?) → (∀ k, w.frozen? ⟨g, k, none⟩ = false) → (execOp a.eval oi).run P w = .ok .skip (w.setCell ⟨g, j, none⟩ u) := by intro hc_ hf_; first | (go_simp; done) | (go_simp; rfl)) : wpAnyLast P md ops Q S ds (fuel + 1) l a w := by
 have hb := hSt.at_ k e
 have _ := ho; have _ := hp
 refine re_ (rl_ i (fun K hK => ?_) AllReadyL.nil hi hd) hc (by simp)
 rw [if_pos hw]
 unfold Oper.wp
 rw [hrun (blk_cell hb) (blk_frozen hb)]
 show K (a.put oi.dst undef) _
 rw [hN]
 exact hK.out _ _ (h _ (hSt.put k e (below_setCell0 hSt.below (hSt.ge k e) _ _) (blk_put hb j u rfl) (fun k hk => Below.heap_setCell w ⟨g, j, none⟩ u k hk)))
end
theorem atL.two {w : World} {ad : Addr} {x y : Value} {cs : List Value} (h : atL w ad 0 (x :: y :: cs)) : atL w ad 0 [x, y] := ⟨h.1, h.2.1, trivial⟩
theorem row_all {w : World} {A : Option Addr} {n c : Nat} {l : List S48} (h : CellsC w (.slice A n c) l) (i : Nat) (x : S48) (hx : l[i]? = some x) : ∃ ad, A = some ad ∧ (∀ W, Below w.heap.size w W → atL W (ad.add (i * 4)) 0 [.int .i64 x.f0.f0, .int .i64 x.f0.f1, .int .i64 x.f1, .int .i64 x.f2]) := by
 obtain ⟨A', c', e, _, hC⟩ := h
 injection e with e1 e2 e3
 subst e1
 have hi := (List.getElem?_eq_some_iff.1 hx).1
 obtain ⟨ad, e, q0, q1, q2, q3⟩ := at_T48 hC (i : Int) (by omega) (by omega)
 have er : rd_T48 l (i : Int) = x := by unfold rd_T48; rw [Int.toNat_natCast, List.getD_eq_getElem?_getD, hx]; rfl
 rw [er, Int.toNat_natCast] at q0 q1 q2 q3
 subst e
 refine ⟨ad, rfl, fun W hb => atL_mk fun j v hj => ?_⟩
 match j, hj with
 | 0, hj =>
  obtain rfl := Option.some.inj hj
  exact pw_cell_below hb q0
 | 1, hj =>
  obtain rfl := Option.some.inj hj
  exact pw_cell_below hb q1
 | 2, hj =>
  obtain rfl := Option.some.inj hj
  exact pw_cell_below hb q2
 | 3, hj =>
  obtain rfl := Option.some.inj hj
  exact pw_cell_below hb q3
attribute [local go_sem high] eqA48
def wantE (c wa wb : Int) (ia ib : S35) (k : Nat) : S48 :=
 if c + wa + wb ≤ (k : Int) then ⟨⟨0, 0⟩, (k : Int) - wa - wb, 0⟩ else if c + wa ≤ (k : Int) then ⟨⟨ib.f0, ib.f1⟩, (k : Int) - c - wa, 0⟩ else if c ≤ (k : Int) then ⟨⟨ia.f0, ia.f1⟩, (k : Int) - c, 0⟩ else ⟨⟨0, 0⟩, (k : Int), 0⟩
theorem rowE_at (n i : Nat) (h : i < n) : (rowE n)[i]? = some ⟨⟨0, 0⟩, (i : Int), 0⟩ := by unfold rowE; simp [h]
theorem earlier_at {a b : S41} {n : Nat} {c : Int} (ka : a.f0.f1 = 1) (kb : b.f0.f1 = 1) (pa : a.f1 = c) (pb : b.f1 = c) (hc : 0 ≤ c ∧ c ≤ (n : Int)) (ha : Stands a n) (hb : Stands b n) (k : Nat) (hk : (k : Int) < (n : Int) + wid a + wid b) :
 (foldE (rowE n) [a, incS b a true])[k]? = some (wantE c (wid a) (wid b) a.f0.f0 b.f0.f0 k) := by
 have hwa := ha.wid
 have hwb := hb.wid
 have e0 : (rowE n).length = n := by unfold rowE; simp
 have hm : incS b a true = mvS b a := by rw [incS_ii kb ka, if_pos (.inr ⟨by rw [pa, pb], rfl⟩)]
 have w6 : wid (mvS b a) = wid b := rfl
 have l1 : (insC (rowE n) a).length = n + (wid a).toNat := by rw [insC_len _ _ (by rw [e0]; omega), e0]
 show (doesE (doesE (rowE n) a) (incS b a true))[k]? = _
 rw [hm, doesE_ins ka, doesE_ins (o := mvS b a) kb, ins_at _ _ (by rw [l1]; show 0 ≤ b.f1 + wid a ∧ b.f1 + wid a ≤ _; omega)]
 show (if (k : Int) < b.f1 + wid a then _ else if (k : Int) < b.f1 + wid a + ((wid (mvS b a)).toNat : Int) then _ else _) = _
 unfold wantE
 by_cases c1 : (k : Int) < b.f1 + wid a
 · have n1 : ¬ (c + wid a + wid b ≤ (k : Int)) := by omega
   have n2 : ¬ (c + wid a ≤ (k : Int)) := by omega
   rw [if_pos c1, ins_at _ _ (by rw [e0]; omega), if_neg n1, if_neg n2]
   by_cases c2 : (k : Int) < a.f1
   · have n3 : ¬ (c ≤ (k : Int)) := by omega
     rw [if_pos c2, if_neg n3, rowE_at _ _ (by omega)]
   · have n3 : c ≤ (k : Int) := by omega
     have n4 : (k : Int) < a.f1 + ((wid a).toNat : Int) := by omega
     rw [if_neg c2, if_pos n3, if_pos n4, pa]
 · rw [if_neg c1]
   have hw6 : (((wid (mvS b a)).toNat : Nat) : Int) = wid b := by rw [w6]; omega
   by_cases c2 : (k : Int) < b.f1 + wid a + ((wid (mvS b a)).toNat : Int)
   · have n1 : ¬ (c + wid a + wid b ≤ (k : Int)) := by omega
     have n2 : c + wid a ≤ (k : Int) := by omega
     rw [if_pos c2, if_neg n1, if_pos n2]
     show some (⟨⟨b.f0.f0.f0, b.f0.f0.f1⟩, (k : Int) - (b.f1 + wid a), 0⟩ : S48) = _
     have : (k : Int) - (b.f1 + wid a) = (k : Int) - c - wid a := by omega
     rw [this]
   · have n1 : c + wid a + wid b ≤ (k : Int) := by omega
     rw [if_neg c2, if_pos n1, w6, ins_at _ _ (by rw [e0]; omega)]
     have n2 : ¬ (((k - (wid b).toNat : Nat) : Int) < a.f1) := by omega
     have n3 : ¬ (((k - (wid b).toNat : Nat) : Int) < a.f1 + ((wid a).toNat : Int)) := by omega
     rw [if_neg n2, if_neg n3, rowE_at _ _ (by omega)]
     have : ((k - (wid b).toNat - (wid a).toNat : Nat) : Int) = (k : Int) - wid a - wid b := by omega
     rw [this]
def firstLoop : Code → Option Code
 | .loop c => some c
 | .seq a b => match firstLoop a with
  | some c => some c
  | none => firstLoop b
 | .block _ c => firstLoop c
 | .scope c => firstLoop c
 | .cond _ a b => match firstLoop a with
  | some c => some c
  | none => firstLoop b
 | _ => none
noncomputable def loop4 : Code := ((Tryd.f4.body.bind firstLoop).getD .skip)
set_option maxRecDepth 1000000 in
set_option maxHeartbeats 8000000 in
theorem earlier_loop (a b : S41) (n ga gb : Nat) (c wa wb : Int) (X : List S48) (Ax : Option Addr) (cx : Nat) (w wv : World) (K : Act → World → Prop) (y0 y1 y3 y7 y8 y9 y10 y12 y13 y14 y16 y17 y18 y19 y20 y21 y22 y23 y24 y25 y26 y27 y28 y29 y30 y31 y32 y33 y34 y35 y36 y37 y38 y39 y40 y41 y42 y43 y44 y45 y46 y47 y48 y49 y50 y51 y52 y53 y54 y55 y56 y57 y58 y59 y60 y61 y62 y63 y64 y65 y66 y67 y68 y69 y70 y71 y72 y73 y74 y75 y76 y77 y78 y79 y80 y81 y82 y83 y84 y85 y86 y87 y88 y89 y90 y91 y92 y93 y94 y95 y96 y97 y98 y99 y100 y101 y102 y103 y104 y105 y106 y107 y108 y109 y110 y111 y112 y113 y114 y115 y116 y117 y118 y119 y120 y121 y122 y123 y124 y125 y126 y127 y128 y129 y130 y131 y132 y133 y134 y135 y136 y137 y138 y139 y140 y141 y142 y143 y144 y145 y146 y147 y148 y149 y150 y151 y152 y153 y154 y155 y156 y157 y158 y159 y160 y161 y162 y163 y164 y165 y166 y167 : Value)
 (hSa : Stands a n) (hSb : Stands b n) (hNa : a.f3 = []) (hNb : b.f3 = []) (hWa : wid a = wa) (hWb : wid b = wb) (hc : 0 ≤ c ∧ c ≤ 30) (hwa : 0 ≤ wa ∧ wa ≤ 5) (hwb : 0 ≤ wb ∧ wb ≤ 5) (hl : X.length ≤ 40)
 (hX : ∀ k, k < X.length → X[k]? = some (wantE c wa wb a.f0.f0 b.f0.f0 k)) (hC : CellsC wv (.slice Ax X.length cx) X)
 (hTa : ∀ W, Below wv.heap.size wv W → atL W ⟨ga, 0, none⟩ 0 (opA a (.slice none 0 0)).toList) (hTb : ∀ W, Below wv.heap.size wv W → atL W ⟨gb, 0, none⟩ 0 (opA b (.slice none 0 0)).toList)
 (hK : ∀ (y0 y1 y2 y3 y4 y5 y6 y7 y8 y9 y10 y11 y12 y13 y14 y15 y16 y17 y18 y19 y20 y21 y22 y23 y24 y25 y26 y27 y28 y29 y30 y31 y32 y33 y34 y35 y36 y37 y38 y39 y40 y41 y42 y43 y44 y45 y46 y47 y48 y49 y50 y51 y52 y53 y54 y55 y56 y57 y58 y59 y60 y61 y62 y63 y64 y65 y66 y67 y68 y69 y70 y71 y72 y73 y74 y75 y76 y77 y78 y79 y80 y81 y82 y83 y84 y85 y86 y87 y88 y89 y90 y91 y92 y93 y94 y95 y96 y97 y98 y99 y100 y101 y102 y103 y104 y105 y106 y107 y108 y109 y110 y111 y112 y113 y114 y115 y116 y117 y118 y119 y120 y121 y122 y123 y124 y125 y126 y127 y128 y129 y130 y131 y132 y133 y134 y135 y136 y137 y138 y139 y140 y141 y142 y143 y144 y145 y146 y147 y148 y149 y150 y151 y152 y153 y154 y155 y156 y157 y158 y159 y160 y161 y162 y163 y164 y165 y166 y167 : Value) w', Below wv.heap.size wv w' → K ⟨List.toArray (y0 :: y1 :: y2 :: y3 :: y4 :: y5 :: y6 :: y7 :: y8 :: y9 :: y10 :: y11 :: y12 :: y13 :: y14 :: y15 :: y16 :: y17 :: y18 :: y19 :: y20 :: y21 :: y22 :: y23 :: y24 :: y25 :: y26 :: y27 :: y28 :: y29 :: y30 :: y31 :: y32 :: y33 :: y34 :: y35 :: y36 :: y37 :: y38 :: y39 :: y40 :: y41 :: y42 :: y43 :: y44 :: y45 :: y46 :: y47 :: y48 :: y49 :: y50 :: y51 :: y52 :: y53 :: y54 :: y55 :: y56 :: y57 :: y58 :: y59 :: y60 :: y61 :: y62 :: y63 :: y64 :: y65 :: y66 :: y67 :: y68 :: y69 :: y70 :: y71 :: y72 :: y73 :: y74 :: y75 :: y76 :: y77 :: y78 :: y79 :: y80 :: y81 :: y82 :: y83 :: y84 :: y85 :: y86 :: y87 :: y88 :: y89 :: y90 :: y91 :: y92 :: y93 :: y94 :: y95 :: y96 :: y97 :: y98 :: y99 :: y100 :: y101 :: y102 :: y103 :: y104 :: y105 :: y106 :: y107 :: y108 :: y109 :: y110 :: y111 :: y112 :: y113 :: y114 :: y115 :: y116 :: y117 :: y118 :: y119 :: y120 :: y121 :: y122 :: y123 :: y124 :: y125 :: y126 :: y127 :: y128 :: y129 :: y130 :: y131 :: y132 :: y133 :: y134 :: y135 :: y136 :: y137 :: y138 :: y139 :: y140 :: y141 :: y142 :: y143 :: y144 :: y145 :: y146 :: y147 :: y148 :: y149 :: y150 :: y151 :: y152 :: y153 :: y154 :: y155 :: y156 :: y157 :: y158 :: y159 :: y160 :: y161 :: y162 :: y163 :: y164 :: y165 :: y166 :: y167 :: []), []⟩ w') :
 Code.wp Tryd.prog (Code.loop loop4) (Exit.inBlock 0 (Exit.then K (bodyPost Tryd.prog Tryd.f4 (Yes w)))) ⟨List.toArray (y0 :: y1 :: (.bool false : Value) :: y3 :: (.int .i64 c : Value) :: (.pointer (some ⟨ga, 0, none⟩) : Value) :: (.pointer (some ⟨gb, 0, none⟩) : Value) :: y7 :: y8 :: y9 :: y10 :: (.slice Ax X.length cx : Value) :: y12 :: y13 :: y14 :: (.int .i64 0 : Value) :: y16 :: y17 :: y18 :: y19 :: y20 :: y21 :: y22 :: y23 :: y24 :: y25 :: y26 :: y27 :: y28 :: y29 :: y30 :: y31 :: y32 :: y33 :: y34 :: y35 :: y36 :: y37 :: y38 :: y39 :: y40 :: y41 :: y42 :: y43 :: y44 :: y45 :: y46 :: y47 :: y48 :: y49 :: y50 :: y51 :: y52 :: y53 :: y54 :: y55 :: y56 :: y57 :: y58 :: y59 :: y60 :: y61 :: y62 :: y63 :: y64 :: y65 :: y66 :: y67 :: y68 :: y69 :: y70 :: y71 :: y72 :: y73 :: y74 :: y75 :: y76 :: y77 :: y78 :: y79 :: y80 :: y81 :: y82 :: y83 :: y84 :: y85 :: y86 :: y87 :: y88 :: y89 :: y90 :: y91 :: y92 :: y93 :: y94 :: y95 :: y96 :: y97 :: y98 :: y99 :: y100 :: y101 :: y102 :: y103 :: y104 :: y105 :: y106 :: y107 :: y108 :: y109 :: y110 :: y111 :: y112 :: y113 :: y114 :: y115 :: y116 :: y117 :: y118 :: y119 :: y120 :: y121 :: y122 :: y123 :: y124 :: y125 :: y126 :: y127 :: y128 :: y129 :: y130 :: y131 :: y132 :: y133 :: y134 :: y135 :: y136 :: y137 :: y138 :: y139 :: y140 :: y141 :: y142 :: y143 :: y144 :: y145 :: y146 :: y147 :: y148 :: y149 :: y150 :: y151 :: y152 :: y153 :: y154 :: y155 :: y156 :: y157 :: y158 :: y159 :: y160 :: y161 :: y162 :: y163 :: y164 :: y165 :: y166 :: y167 :: []), []⟩ wv := by
 have HSa := Aside0.mk hSa; have HSb := Aside0.mk hSb; have HNa := Aside0.mk hNa; have HNb := Aside0.mk hNb; have HWa := Aside0.mk hWa; have HWb := Aside0.mk hWb
 have HX := Aside0.mk hX; have HC := Aside0.mk hC; have HTa := Aside0.mk hTa; have HTb := Aside0.mk hTb; have HK := Aside0.mk hK
 have S := Aside0.mk (St.init wv (F := fun _ => True) (fun _ _ => trivial))
 clear hSa hSb hNa hNb hWa hWb hX hC hTa hTb hK
 conv => arg 2; arg 1; whnf
 go_loopw [15] (fun i' wr => ∃ k : Nat, k ≤ X.length ∧ i' = .int .i64 (k : Int) ∧ Aside0 (St wv wr [] (fun _ => True))) (fun i' _ => X.length - (intOf i').toNat)
 case atStart => exact ⟨0, Nat.zero_le _, rfl, S⟩
 case round =>
  clear S
  obtain ⟨k, hk, rfl, S⟩ := hrel
  by_cases hlt : k < X.length
  · obtain ⟨x, hx⟩ : ∃ x, x = wantE c wa wb a.f0.f0 b.f0.f0 k := ⟨_, rfl⟩
    have hxk := HX.out k hlt
    rw [← hx] at hxk
    have HXK := Aside0.mk hxk
    have hk40 : (k : Int) ≤ 40 := by omega
    have hk0 : (0 : Int) ≤ (k : Int) := by omega
    clear hxk hk
    go_upto_block 2 with (first | ((with_reducible refine gate_new rfl ?_); refine ev_new S 48 #[.int .i64 0, .int .i64 0, .int .i64 0, .int .i64 0] ?_; clear S; intro _ _ S) | ((with_reducible refine gate_st rfl ?_); refine ev_store S ?_; clear S; intro _ S))
    simp only [Act.put, List.setIfInBounds_toArray, List.set_cons_zero, List.set_cons_succ]
    go_cut [16] (fun v wz => ∃ g, v = .pointer (some ⟨g, 0, none⟩) ∧ Aside0 (St wv wz [(g, 48, #[.int .i64 x.f0.f0, .int .i64 x.f0.f1, .int .i64 x.f1, .int .i64 x.f2])] (fun _ => True)))
    case first =>
     clear HXK
     have HXV := Aside0.mk hx
     clear hx
     have HLT := Aside0.mk hlt
     clear hlt
     have e1 : IntKind.i64.wrap (c + wa) = c + wa := IntWalk.i64_in _ (by omega)
     have e2 : IntKind.i64.wrap (c + wa + wb) = c + wa + wb := IntWalk.i64_in _ (by omega)
     have e3 : IntKind.i64.wrap ((k : Int) - wa) = (k : Int) - wa := IntWalk.i64_in _ (by omega)
     have e4 : IntKind.i64.wrap ((k : Int) - wa - wb) = (k : Int) - wa - wb := IntWalk.i64_in _ (by omega)
     have e5 : IntKind.i64.wrap ((k : Int) - c) = (k : Int) - c := IntWalk.i64_in _ (by omega)
     have e6 : IntKind.i64.wrap ((k : Int) - c - wa) = (k : Int) - c - wa := IntWalk.i64_in _ (by omega)
     by_cases q1 : c + wa + wb ≤ (k : Int)
     · have hv : x = ⟨⟨0, 0⟩, (k : Int) - wa - wb, 0⟩ := by rw [HXV.out]; unfold wantE; rw [if_pos q1]
       clear HXV
       subst hv
       replace q1 := decide_eq_true q1
       go_upto_region 17 with (fail)
       refine rg_start (n := 10) (fun W => St wv W _ (fun _ => True)) [] (S.out.weak fun _ _ => trivial) (fun _ h => h.drew) ?_
       clear S
       intro _ S
       refine pu_ 0 ?_; refine pu_ 1 ?_
       refine le_ 2 (opA a (.slice none 0 0)) S (fun _ h => HTa.out _ h.below) ?_
       refine le_ 5 (opA b (.slice none 0 0)) S (fun _ h => HTb.out _ h.below) ?_
       refine cl_ 3 #[.agg (opA a (.slice none 0 0))] ?_ Tryd.func28; refine (lwid_any HSa.out _ _ (opC_nil _ _ HNa.out)).mono ?_; rw [HWa.out]; rintro e_ w7 ⟨rfl, hb⟩; refine ⟨_, rfl, S.step hb, fun S' => ?_⟩; clear S hb; have S := S'; clear S'; refine nr_ ?_
       refine pu_ 4 ?_
       refine cl_ 6 #[.agg (opA b (.slice none 0 0))] ?_ Tryd.func28; refine (lwid_any HSb.out _ _ (opC_nil _ _ HNb.out)).mono ?_; rw [HWb.out]; rintro e_ w7 ⟨rfl, hb⟩; refine ⟨_, rfl, S.step hb, fun S' => ?_⟩; clear S hb; have S := S'; clear S'; refine nr_ ?_
       refine pu_ 7 ?_; refine pu_ 8 ?_; refine pu_ 9 ?_; refine done_ (by kernel_rfl) ?_
       replace S := Aside0.mk S
       go_upto_region 18 with (fail)
       refine rg_start (n := 9) (fun W => St wv W _ (fun _ => True)) [8] (S.out.weak fun _ _ => trivial) (fun _ h => h.drew) ?_
       clear S
       intro _ S
       refine pu_ 0 ?_
       refine le_ 1 (opA a (.slice none 0 0)) S (fun _ h => HTa.out _ h.below) ?_
       refine le_ 4 (opA b (.slice none 0 0)) S (fun _ h => HTb.out _ h.below) ?_
       refine cl_ 2 #[.agg (opA a (.slice none 0 0))] ?_ Tryd.func28; refine (lwid_any HSa.out _ _ (opC_nil _ _ HNa.out)).mono ?_; rw [HWa.out]; rintro e_ w7 ⟨rfl, hb⟩; refine ⟨_, rfl, S.step hb, fun S' => ?_⟩; clear S hb; have S := S'; clear S'; refine nr_ ?_
       refine pu_ 3 ?_
       refine cl_ 5 #[.agg (opA b (.slice none 0 0))] ?_ Tryd.func28; refine (lwid_any HSb.out _ _ (opC_nil _ _ HNb.out)).mono ?_; rw [HWb.out]; rintro e_ w7 ⟨rfl, hb⟩; refine ⟨_, rfl, S.step hb, fun S' => ?_⟩; clear S hb; have S := S'; clear S'; refine nr_ ?_
       refine pu_ 6 ?_; refine pu_ 7 ?_
       refine sc_ 8 0 S ?_; clear S; intro _ S; refine done_ (by kernel_rfl) ?_
       replace S := Aside0.mk S
       go_wp2_with (fail)
       go_meet
       exact ⟨_, rfl, S⟩
     · have hv : x = if c + wa ≤ (k : Int) then ⟨⟨b.f0.f0.f0, b.f0.f0.f1⟩, (k : Int) - c - wa, 0⟩ else if c ≤ (k : Int) then ⟨⟨a.f0.f0.f0, a.f0.f0.f1⟩, (k : Int) - c, 0⟩ else ⟨⟨0, 0⟩, (k : Int), 0⟩ := by rw [HXV.out]; unfold wantE; rw [if_neg q1]
       clear HXV
       replace q1 := decide_eq_false q1
       by_cases q2 : c + wa ≤ (k : Int)
       · rw [if_pos q2] at hv
         subst hv
         replace q2 := decide_eq_true q2
         go_upto_region 17 with (fail)
         refine rg_start (n := 10) (fun W => St wv W _ (fun _ => True)) [] (S.out.weak fun _ _ => trivial) (fun _ h => h.drew) ?_
         clear S
         intro _ S
         refine pu_ 0 ?_; refine pu_ 1 ?_
         refine le_ 2 (opA a (.slice none 0 0)) S (fun _ h => HTa.out _ h.below) ?_
         refine le_ 5 (opA b (.slice none 0 0)) S (fun _ h => HTb.out _ h.below) ?_
         refine cl_ 3 #[.agg (opA a (.slice none 0 0))] ?_ Tryd.func28; refine (lwid_any HSa.out _ _ (opC_nil _ _ HNa.out)).mono ?_; rw [HWa.out]; rintro e_ w7 ⟨rfl, hb⟩; refine ⟨_, rfl, S.step hb, fun S' => ?_⟩; clear S hb; have S := S'; clear S'; refine nr_ ?_
         refine pu_ 4 ?_
         refine cl_ 6 #[.agg (opA b (.slice none 0 0))] ?_ Tryd.func28; refine (lwid_any HSb.out _ _ (opC_nil _ _ HNb.out)).mono ?_; rw [HWb.out]; rintro e_ w7 ⟨rfl, hb⟩; refine ⟨_, rfl, S.step hb, fun S' => ?_⟩; clear S hb; have S := S'; clear S'; refine nr_ ?_
         refine pu_ 7 ?_; refine pu_ 8 ?_; refine pu_ 9 ?_; refine done_ (by kernel_rfl) ?_
         replace S := Aside0.mk S
         go_upto_region 20 with (first | ((with_reducible refine gate_load rfl ?_); refine ev_ext (opA a (.slice none 0 0)) (HTa.out _ S.out.below) ?_) | (go_at_call 28; (with_reducible refine (lwid_any HSa.out _ _ (opC_nil _ _ HNa.out)).mono ?_); rw [HWa.out]; rintro e_ w7 ⟨rfl, hb⟩; replace S := Aside0.mk (S.out.step hb); clear hb))
         refine rg_start (n := 11) (fun W => St wv W _ (fun _ => True)) [10] (S.out.weak fun _ _ => trivial) (fun _ h => h.drew) ?_
         clear S
         intro _ S
         refine pu_ 0 ?_; refine pu_ 1 ?_
         refine le_ 2 #[.int .i64 b.f0.f0.f0, .int .i64 b.f0.f0.f1] S (fun _ h => (HTb.out _ h.below).two) ?_ (hu := Tryd.underlying35)
         refine pu_ 3 ?_; refine pu_ 4 ?_; refine pu_ 5 ?_
         refine le_ 6 (opA a (.slice none 0 0)) S (fun _ h => HTa.out _ h.below) ?_
         refine cl_ 7 #[.agg (opA a (.slice none 0 0))] ?_ Tryd.func28; refine (lwid_any HSa.out _ _ (opC_nil _ _ HNa.out)).mono ?_; rw [HWa.out]; rintro e_ w7 ⟨rfl, hb⟩; refine ⟨_, rfl, S.step hb, fun S' => ?_⟩; clear S hb; have S := S'; clear S'; refine nr_ ?_
         refine pu_ 8 ?_; refine pu_ 9 ?_
         refine so_ 10 0 S ?_; clear S; intro _ S; refine done_ (by kernel_rfl) ?_
         replace S := Aside0.mk S
         go_wp2_with (fail)
         go_meet
         exact ⟨_, rfl, S⟩
       · rw [if_neg q2] at hv
         replace q2 := decide_eq_false q2
         by_cases q3 : c ≤ (k : Int)
         · rw [if_pos q3] at hv
           subst hv
           replace q3 := decide_eq_true q3
           go_upto_region 17 with (fail)
           refine rg_start (n := 10) (fun W => St wv W _ (fun _ => True)) [] (S.out.weak fun _ _ => trivial) (fun _ h => h.drew) ?_
           clear S
           intro _ S
           refine pu_ 0 ?_; refine pu_ 1 ?_
           refine le_ 2 (opA a (.slice none 0 0)) S (fun _ h => HTa.out _ h.below) ?_
           refine le_ 5 (opA b (.slice none 0 0)) S (fun _ h => HTb.out _ h.below) ?_
           refine cl_ 3 #[.agg (opA a (.slice none 0 0))] ?_ Tryd.func28; refine (lwid_any HSa.out _ _ (opC_nil _ _ HNa.out)).mono ?_; rw [HWa.out]; rintro e_ w7 ⟨rfl, hb⟩; refine ⟨_, rfl, S.step hb, fun S' => ?_⟩; clear S hb; have S := S'; clear S'; refine nr_ ?_
           refine pu_ 4 ?_
           refine cl_ 6 #[.agg (opA b (.slice none 0 0))] ?_ Tryd.func28; refine (lwid_any HSb.out _ _ (opC_nil _ _ HNb.out)).mono ?_; rw [HWb.out]; rintro e_ w7 ⟨rfl, hb⟩; refine ⟨_, rfl, S.step hb, fun S' => ?_⟩; clear S hb; have S := S'; clear S'; refine nr_ ?_
           refine pu_ 7 ?_; refine pu_ 8 ?_; refine pu_ 9 ?_; refine done_ (by kernel_rfl) ?_
           replace S := Aside0.mk S
           go_wp2_with (first | ((with_reducible refine gate_load rfl ?_); refine ev_ext (opA a (.slice none 0 0)) (HTa.out _ S.out.below) ?_) | (go_at_call 28; (with_reducible refine (lwid_any HSa.out _ _ (opC_nil _ _ HNa.out)).mono ?_); rw [HWa.out]; rintro e_ w7 ⟨rfl, hb⟩; replace S := Aside0.mk (S.out.step hb); clear hb) | ((with_reducible refine gate_load rfl ?_); refine ev_ext #[.int .i64 a.f0.f0.f0, .int .i64 a.f0.f0.f1] (HTa.out _ S.out.below).two ?_ (hu := Tryd.underlying35)) | ((with_reducible refine gate_st rfl ?_); refine ev_store S ?_; clear S; intro _ S))
           go_meet
           exact ⟨_, rfl, S⟩
         · rw [if_neg q3] at hv
           subst hv
           replace q3 := decide_eq_false q3
           go_upto_region 17 with (fail)
           refine rg_start (n := 10) (fun W => St wv W _ (fun _ => True)) [] (S.out.weak fun _ _ => trivial) (fun _ h => h.drew) ?_
           clear S
           intro _ S
           refine pu_ 0 ?_; refine pu_ 1 ?_
           refine le_ 2 (opA a (.slice none 0 0)) S (fun _ h => HTa.out _ h.below) ?_
           refine le_ 5 (opA b (.slice none 0 0)) S (fun _ h => HTb.out _ h.below) ?_
           refine cl_ 3 #[.agg (opA a (.slice none 0 0))] ?_ Tryd.func28; refine (lwid_any HSa.out _ _ (opC_nil _ _ HNa.out)).mono ?_; rw [HWa.out]; rintro e_ w7 ⟨rfl, hb⟩; refine ⟨_, rfl, S.step hb, fun S' => ?_⟩; clear S hb; have S := S'; clear S'; refine nr_ ?_
           refine pu_ 4 ?_
           refine cl_ 6 #[.agg (opA b (.slice none 0 0))] ?_ Tryd.func28; refine (lwid_any HSb.out _ _ (opC_nil _ _ HNb.out)).mono ?_; rw [HWb.out]; rintro e_ w7 ⟨rfl, hb⟩; refine ⟨_, rfl, S.step hb, fun S' => ?_⟩; clear S hb; have S := S'; clear S'; refine nr_ ?_
           refine pu_ 7 ?_; refine pu_ 8 ?_; refine pu_ 9 ?_; refine done_ (by kernel_rfl) ?_
           replace S := Aside0.mk S
           go_wp2_with (first | ((with_reducible refine gate_load rfl ?_); refine ev_ext (opA a (.slice none 0 0)) (HTa.out _ S.out.below) ?_) | (go_at_call 28; (with_reducible refine (lwid_any HSa.out _ _ (opC_nil _ _ HNa.out)).mono ?_); rw [HWa.out]; rintro e_ w7 ⟨rfl, hb⟩; replace S := Aside0.mk (S.out.step hb); clear hb))
           go_meet
           exact ⟨_, rfl, S⟩
    case rest =>
     obtain ⟨g, rfl, S⟩ := hcut
     have hk1 : (k : Int) < (X.length : Int) := by omega
     obtain ⟨ad, hA, hat⟩ := row_all HC.out k x HXK.out
     subst hA
     have HAT := Aside0.mk hat
     clear hat
     go_upto_region 23 with (fail)
     refine rg_start (n := 6) (fun W => St wv W _ (fun _ => True)) [] (S.out.weak fun _ _ => trivial) (fun _ h => h.drew) ?_
     clear S
     intro _ S
     refine pu_ 0 ?_; refine pu_ 1 ?_; refine pu_ 2 ?_
     refine le_ 3 #[.int .i64 x.f0.f0, .int .i64 x.f0.f1, .int .i64 x.f1, .int .i64 x.f2] S (fun _ h => HAT.out _ h.below) ?_ (hu := Tryd.underlying48)
     refine ld_ 4 0 S ?_ (hu := Tryd.underlying48)
     refine pu_ 5 ?_; refine done_ (by kernel_rfl) ?_
     replace S := Aside0.mk S
     go_wp2_with (fail)
     go_roundw
     case rel => exact ⟨k + 1, by omega, by go_num, Aside0.mk (S.out.drop (List.sublist_cons_self _ _))⟩
     case measure => simp [intOf]; omega
  · have q1 : decide (k < X.length) = false := decide_eq_false hlt
    go_wp2_with (fail)
    exact HK.out _ _ _ _ _ _ _ _ _ _ _ _ _ _ _ _ _ _ _ _ _ _ _ _ _ _ _ _ _ _ _ _ _ _ _ _ _ _ _ _ _ _ _ _ _ _ _ _ _ _ _ _ _ _ _ _ _ _ _ _ _ _ _ _ _ _ _ _ _ _ _ _ _ _ _ _ _ _ _ _ _ _ _ _ _ _ _ _ _ _ _ _ _ _ _ _ _ _ _ _ _ _ _ _ _ _ _ _ _ _ _ _ _ _ _ _ _ _ _ _ _ _ _ _ _ _ _ _ _ _ _ _ _ _ _ _ _ _ _ _ _ _ _ _ _ _ _ _ _ _ _ _ _ _ _ _ _ _ _ _ _ _ _ _ _ _ _ _ _ S.out.below
end Go.Proofs.YtloccjkcmlkifaaDoor
end

section
/- XformEarlierLeft: the walk. -/
namespace Go.Proofs.YtloccjkcmlkifaaDoor
open Go.RowKit Go.Proofs.YtloccjkcmlkifaaDoor.PAll Go.Proofs.YtloccjkcmlkifaaDoorW.PrintWords Go.Proofs.YtloccjkcmlkifaaDoorW.PrintLast

theorem St.atBox' {w0 w : World} {bs : List Bx} {F : World → Prop} {g : Nat} {t : TypeId} {cs : Array Value} (S : St w0 w bs F) (i : Nat) (e : bs[i]? = some (g, t, cs)) : ∀ W, Below w.heap.size w W → atL W ⟨g, 0, none⟩ 0 cs.toList := fun W hb => atL_blk (by simpa using blk_below (S.at_ i e) hb)
theorem St.re {w0 w : World} {bs : List Bx} {F : World → Prop} (_ : St w0 w bs F) : St w w [] (fun _ => True) := St.init w (fun _ _ => trivial)
section
variable {P : Program} {ops : Array Oper} {Q : Exit → Act → World → Prop} {a : Act} {w w0 : World} {oi : Oper} {N : Tmp} {bs : List Bx} {F : World → Prop}
theorem kb_ (cs : Array Value) (n : Nat) {ty : TypeId} {xs : Array (Nat × Operand)} {K : Act → World → Prop} (hSt : St w0 w bs F)
 (h : ∀ g w', St w0 w' ((g, 41, cs) :: bs) F → K (a.put (some N) (.slice (some ⟨g, 0, none⟩) n n)) w')
 (ho : oi.op = .buildSlice ty n xs := by rfl) (hN : oi.dst = some N := by rfl)
 (hw : Region.wanted oi (yielded ops a.tmps) = true := by first | exact wanted_plain rfl | (refine wanted_on rfl ?_; simp [yielded]))
 (hrun : (execOp a.eval oi).run P w = .ok (.value (.slice (some ⟨w.heap.size, 0, none⟩) n n)) (w.alloc (.cells cs 41 (0, 0))) := by first | (go_simp; done) | (go_simp; rfl)) :
 if Region.wanted oi (yielded ops a.tmps) = true then Oper.wp P oi a w K Q else K (a.put oi.dst undef) w := by
 have _ := ho
 rw [if_pos hw]
 unfold Oper.wp
 rw [hrun]
 show K (a.put oi.dst _) _
 rw [hN]
 exact h _ _ (hSt.push (below_alloc (Below.refl _ _) _) (blk_new w _) rfl)
end
theorem eq_loop (l : List S48) (hl : l.length ≤ 1048576) : ∀ (d i : Nat), l.length = i + d → redraftlaw05_equal.l0 (d + 1) l l (i : Int) = some true := by
 intro d
 induction d with
 | zero =>
  intro i h
  rw [redraftlaw05_equal.l0, if_neg (by omega)]
 | succ d ih =>
  intro i h
  have w1 : wrap64 ((i : Int) + 1) = ((i + 1 : Nat) : Int) := by rw [wrap_id (by omega) (by omega)]; omega
  rw [redraftlaw05_equal.l0, if_pos (by omega), if_pos (by omega), if_pos (by omega), if_neg (by simp), w1]
  exact ih (i + 1) (by omega)
theorem eq_any (l : List S48) (v u : Value) (w : World) (hv : CellsC w v l) (hu : CellsC w u l) (hl : l.length ≤ 1048576) : Calls Tryd.prog 27 #[v, u] w fun e w' => e = .returned (.bool true) ∧ Below w.heap.size w w' := by
 obtain ⟨A, c, rfl, h1, h2⟩ := hv
 obtain ⟨B, d, rfl, h3, h4⟩ := hu
 exact (redraftlaw05_equal.calls (l.length + 1) A c l B d l true w h2 h1 h4 h3 (by unfold redraftlaw05_equal.f; rw [if_pos rfl]; exact eq_loop l hl l.length 0 (by omega))).mono fun e w' ⟨h, hb⟩ => ⟨h, hb.below⟩
theorem opC_empty (w : World) (o : S41) (A : Option Addr) (c : Nat) (h : o.f3 = []) : OpC w (.slice A o.f3.length c) o := by
 rw [h]
 refine ⟨A, c, by rw [h], by rw [h]; exact Nat.zero_le _, ?_⟩
 rw [h]
 exact ⟨rfl, by simp, fun h => absurd h (by simp)⟩
theorem incS_nil {a b : S41} {e : Bool} (ka : a.f0.f1 = 1) (kb : b.f0.f1 = 1) (h : a.f3 = []) : (incS a b e).f3 = [] := by
 rw [incS_ii ka kb]
 split
 · rfl
 · exact h
theorem both_stand {a b : S41} {l : List S48} (ha : Stands a l.length) (hb : Stands b l.length) (hl : l.length ≤ 900) :
 StandsL l [a, incS b a true] ∧ StandsL l [b, incS a b false] ∧ foldE l [a, incS b a true] = foldE l [b, incS a b false] := by
 have la := doesE_len ha
 have lb := doesE_len hb
 have wa := ha.wid
 have wb := hb.wid
 exact ⟨⟨ha, by omega, by rw [la]; exact inc_stands (by omega) hb ha, by omega, trivial⟩, ⟨hb, by omega, by rw [lb]; exact inc_stands (by omega) ha hb, by omega, trivial⟩, tp1 ha hb⟩
theorem ins_made (c m p : Int) (j n : Nat) (h : j < 5) (hp : 0 ≤ p ∧ p ≤ (n : Int)) : MadeOK (insO c m p (tx j)) c m n :=
 ⟨rfl, ⟨by simp, fun _ => ⟨hp.1, hp.2, j, h, rfl⟩, by simp⟩, fun _ => ⟨rfl, rfl, rfl⟩, by simp, by simp⟩
theorem include_small {a b : S41} {e : Bool} {n : Int} (ha : Sm a n) (hb : Sm b n) (hn : n ≤ 3000) (hid : a.f0.f0.f0 ≠ b.f0.f0.f0) : wrap1 a b (incE a b e) = (incS a b e, 0) := by
 unfold wrap1
 rw [if_pos (owns_zero fun x hx => by
  simp only [List.mem_cons, List.not_mem_nil, or_false] at hx
  rcases hx with rfl | rfl
  · exact ha.good.own
  · exact hb.good.own)]
 exact inc_val ha hb hn hid
set_option maxRecDepth 100000 in
set_option maxHeartbeats 4000000 in
theorem XformEarlierLeft_any (len : Int) (A : Option Addr) (sn sc : Nat) (B : Option Addr) (sm sd : Nat) (i j : Int) (e : Bool) (v3 : Value) (w : World) (hG : GW w) (hT : GT w) (_ : SpecsC w (.slice A sn sc) sn) (_ : sn ≤ 281474976710656) (_ : SpecsC w (.slice B sm sd) sm) (_ : sm ≤ 281474976710656) (_ : (Lit.int .i64 i).wf = true) (_ : (Lit.int .i64 j).wf = true) :
 Calls Tryd.prog 4 #[.agg #[.int .i64 len, .slice A sn sc, .slice B sm sd, .int .i64 i, .int .i64 j, .bool e, v3]] w (Yes w) := by
 obtain ⟨n', h1, b1, b2, _⟩ := within_is len 30 (by omega)
 replace b2 := b2 (by omega)
 obtain ⟨n, rfl⟩ : ∃ n : Nat, n' = (n : Int) := ⟨n'.toNat, by omega⟩
 obtain ⟨c, h2, d1, d2, _⟩ := within_is i ((n : Int) + 1) (by omega)
 replace d2 := d2 (by omega)
 obtain ⟨t', h3, f1, f2, _⟩ := within_is j 5 (by omega)
 replace f2 := f2 (by omega)
 obtain ⟨t, rfl⟩ : ∃ n : Nat, t' = (n : Int) := ⟨t'.toNat, by omega⟩
 obtain ⟨u', h4, g1, g2, _⟩ := within_is (wrap64 (i + j)) 5 (by omega)
 replace g2 := g2 (by omega)
 obtain ⟨u, rfl⟩ : ∃ n : Nat, u' = (n : Int) := ⟨u'.toNat, by omega⟩
 have H1 := Aside0.mk h1; have H2 := Aside0.mk h2; have H3 := Aside0.mk h3; have H4 := Aside0.mk h4
 have ht5 : t < 5 := by omega
 have hu5 : u < 5 := by omega
 have hc0 : 0 ≤ c ∧ c ≤ (n : Int) := by omega
 have hn30 : n < 30 := by omega
 have HX := Aside0.mk (hT.2 t ht5); have HY := Aside0.mk (hT.2 u hu5)
 have S := Aside0.mk (St.init w (F := fun _ => True) (fun _ _ => trivial))
 have HG := Aside0.mk hG
 have hq : IntKind.i64.wrap ((n : Int) + 1) = (n : Int) + 1 := IntWalk.i64_in _ (by omega)
 obtain ⟨a, ha⟩ : ∃ a, a = insO 1 1 c (tx t) := ⟨_, rfl⟩
 obtain ⟨b, hb⟩ : ∃ b, b = insO 2 1 c (tx u) := ⟨_, rfl⟩
 have hma : MadeOK a 1 1 n := by rw [ha]; exact ins_made 1 1 c t n ht5 hc0
 have hmb : MadeOK b 2 1 n := by rw [hb]; exact ins_made 2 1 c u n hu5 hc0
 have hsa : Sm a 1000 := (hma.sm (by omega) (by omega) (by omega)).mono (by omega)
 have hsb : Sm b 1000 := (hmb.sm (by omega) (by omega) (by omega)).mono (by omega)
 have HMA := Aside0.mk hma; have HMB := Aside0.mk hmb; have HSa := Aside0.mk hsa; have HSb := Aside0.mk hsb; have HNa := Aside0.mk (show a.f3 = [] by rw [ha]); have HNb := Aside0.mk (show b.f3 = [] by rw [hb])
 have HI1 := Aside0.mk (include_small (e := true) hsb hsa (by omega) (by rw [ha, hb]; simp))
 have HI2 := Aside0.mk (include_small (e := false) hsa hsb (by omega) (by rw [ha, hb]; simp))
 have HEA := Aside0.mk ha; have HEB := Aside0.mk hb
 have HN := Aside0.mk (And.intro hn30 hc0)
 clear h1 h2 h3 h4 hG hT b1 b2 d1 d2 f1 f2 g1 g2 ha hb hma hmb hsa hsb hn30 hc0
 go_enter Tryd.func4, Tryd.ntmps4
 go_upto_region 5 with (first | ((with_reducible refine gate_box rfl ?_); refine ev_box S ?_; clear S; intro _ _ S) | ((with_reducible refine gate_new rfl ?_); refine ev_new S 41 zA ?_; clear S; intro _ _ S) | ((with_reducible refine gate_load rfl ?_); first | refine ev_load S ?_ | refine ev_fld S ?_) | ((with_reducible refine gate_st rfl ?_); refine ev_store S ?_; clear S; intro _ S) | ((with_reducible refine gate_load rfl ?_); first | refine ev_old S HX.out ?_ | refine ev_old S HY.out ?_) | (go_at_call 18; (with_reducible refine (redraftlaw05_within.calls len 30 _ _ H1.out).mono ?_); rintro e_ w7 ⟨rfl, hb⟩; replace S := Aside0.mk (S.out.step hb.below); clear hb) | (go_at_call 18; (with_reducible refine (redraftlaw05_within.calls i ((n : Int) + 1) _ _ H2.out).mono ?_); rintro e_ w7 ⟨rfl, hb⟩; replace S := Aside0.mk (S.out.step hb.below); clear hb) | (go_at_call 18; (with_reducible refine (redraftlaw05_within.calls j 5 _ _ H3.out).mono ?_); rintro e_ w7 ⟨rfl, hb⟩; replace S := Aside0.mk (S.out.step hb.below); clear hb) | (go_at_call 18; (with_reducible refine (redraftlaw05_within.calls _ 5 _ _ H4.out).mono ?_); rintro e_ w7 ⟨rfl, hb⟩; replace S := Aside0.mk (S.out.step hb.below); clear hb) | (go_at_call 25; (with_reducible refine (ins_any _ _ _ _ _).mono ?_); rintro e_ w7 ⟨rfl, hb⟩; replace S := Aside0.mk (S.out.step hb); clear hb))
 rename_i g1 _ _ _ _ _ g5 _ _ _ g6 _ _ _ _
 have S' : Aside0 (St w _ [(g6, 41, opA (insO 2 1 c (tx u)) (.slice none 0 0)), (g5, 41, opA (insO 1 1 c (tx t)) (.slice none 0 0)), (g1, 25, #[.int .i64 len, .slice A sn sc, .slice B sm sd, .int .i64 i, .int .i64 j, .bool e, v3])] (fun _ => True)) := S
 rw [← HEA.out, ← HEB.out] at S'
 clear S
 have S := S'
 clear S'
 simp only [Act.put, List.setIfInBounds_toArray, List.set_cons_zero, List.set_cons_succ]
 go_cut [7, 8] (fun v7 v8 wc => ∃ g Av cv, v7 = .pointer (some ⟨g, 0, none⟩) ∧ v8 = .int .i64 0 ∧ Aside0 (St w wc [(g, 41, opA (incS b a true) (.slice Av (incS b a true).f3.length cv)), (g6, 41, opA b (.slice none 0 0)), (g5, 41, opA a (.slice none 0 0)), (g1, 25, #[.int .i64 len, .slice A sn sc, .slice B sm sd, .int .i64 i, .int .i64 j, .bool e, v3])] (fun _ => True)))
 case first =>
  refine rg_start (n := 11) (fun W => St w W _ (fun _ => True)) [9] (S.out.weak fun _ _ => trivial) (fun _ h => h.drew) ?_
  clear S
  intro _ S
  refine ld_ 0 0 S ?_; refine ld_ 2 1 S ?_
  refine re_ (rc_ 1 ?_ (rc_ 8 ?_ AllReadyL.nil))
  · intro K hK; refine kc_ #[.agg (opA b (.slice none 0 0))] ?_ Tryd.func22; refine (rcopy_any b _ _ (opC_nil _ _ HNb.out) HSb.out.good.fine).mono ?_; rintro e_ w7 ⟨v, rfl, hR, hb⟩; have S' := S.addOp hb hR; obtain ⟨Ao, co, rfl⟩ := hR.slice; clear hb hR; refine ⟨_, rfl, hK.out _ _ (S'.weak fun _ _ => trivial) (fun _ => ?_)⟩; clear hK; clear S; have S := S'; clear S'; refine nr_ ?_
    refine re_ (rc_ 3 ?_ (rc_ 8 ?_ AllReadyL.nil))
    · intro K hK; refine kc_ #[.agg (opA a (.slice none 0 0))] ?_ Tryd.func22; refine (rcopy_any a _ _ (opC_nil _ _ HNa.out) HSa.out.good.fine).mono ?_; rintro e_ w7 ⟨v, rfl, hR, hb⟩; have S' := S.addOp hb hR; obtain ⟨Ap, cp, rfl⟩ := hR.slice; clear hb hR; refine ⟨_, rfl, hK.out _ _ (S'.weak fun _ _ => trivial) (fun _ => ?_)⟩; clear hK; clear S; have S := S'; clear S'; refine nr_ ?_
      refine re_ (rc_ 4 ?_ (rc_ 8 ?_ AllReadyL.nil))
      · intro K hK; refine kc_ #[.agg (opA b (.slice Ao b.f3.length co)), .agg (opA a (.slice Ap a.f3.length cp)), .bool true] ?_ Tryd.func26; refine (Include_any b a true _ _ _ (GW.below HG.out S.below) S.now.1.2.C S.now.2.C HSb.out.good.fine HSa.out.good.fine).mono ?_; rintro e_ w7 ⟨v, rfl, hR, hb⟩; rw [HI1.out] at hR ⊢; have S' := S.addOp hb hR; obtain ⟨Av, cv, rfl⟩ := hR.slice; clear hb hR; refine ⟨_, rfl, hK.out _ _ (S'.weak fun _ _ => trivial) (fun _ => ?_)⟩; clear hK; clear S; have S := S'; clear S'; refine nr_ ?_
        refine pu_ 5 ?_; refine pu_ 6 ?_; refine pu_ 7 ?_
        refine re_ (rc_ 8 ?_ AllReadyL.nil)
        intro K hK; refine kn_ 41 zA S ?_; intro _ _ S'; refine hK.out _ _ ((S'.drop (List.sublist_cons_self _ _)).weak fun _ _ => trivial) (fun _ => ?_); clear hK; clear S; have S := S'; clear S'; refine nr_ ?_
        refine so_ 9 0 S ?_; clear S; intro _ S; refine pu_ 10 ?_; refine done_ (by kernel_rfl) ?_; replace S := Aside0.mk S; go_wp2_with (fail); go_meet; exact ⟨_, _, _, rfl, rfl, Aside0.mk (S.out.weak fun _ _ => trivial)⟩
      · intro K hK; refine kn_ 41 zA S ?_; intro _ _ S'; refine hK.out _ _ ((S'.drop (List.sublist_cons_self _ _)).weak fun _ _ => trivial) (fun _ => ?_); clear hK; clear S; have S := S'; clear S'; refine nr_ ?_
        refine cl_ 4 #[.agg (opA b (.slice Ao b.f3.length co)), .agg (opA a (.slice Ap a.f3.length cp)), .bool true] ?_ Tryd.func26; refine (Include_any b a true _ _ _ (GW.below HG.out S.below) S.now.1.2.C S.now.2.C HSb.out.good.fine HSa.out.good.fine).mono ?_; rintro e_ w7 ⟨v, rfl, hR, hb⟩; rw [HI1.out] at hR ⊢; have S' := S.addOp hb hR; obtain ⟨Av, cv, rfl⟩ := hR.slice; clear hb hR; refine ⟨_, rfl, ((S'.drop (List.sublist_cons_self _ _)).weak fun _ _ => trivial), fun _ => ?_⟩; clear S; have S := S'; clear S'; refine nr_ ?_
        refine pu_ 5 ?_; refine pu_ 6 ?_; refine pu_ 7 ?_
        refine so_ 9 0 S ?_; clear S; intro _ S; refine pu_ 10 ?_; refine done_ (by kernel_rfl) ?_; replace S := Aside0.mk S; go_wp2_with (fail); go_meet; exact ⟨_, _, _, rfl, rfl, Aside0.mk (S.out.weak fun _ _ => trivial)⟩
    · intro K hK; refine kn_ 41 zA S ?_; intro _ _ S'; refine hK.out _ _ ((S'.drop (List.sublist_cons_self _ _)).weak fun _ _ => trivial) (fun _ => ?_); clear hK; clear S; have S := S'; clear S'; refine nr_ ?_
      refine cl_ 3 #[.agg (opA a (.slice none 0 0))] ?_ Tryd.func22; refine (rcopy_any a _ _ (opC_nil _ _ HNa.out) HSa.out.good.fine).mono ?_; rintro e_ w7 ⟨v, rfl, hR, hb⟩; have S' := S.addOp hb hR; obtain ⟨Ap, cp, rfl⟩ := hR.slice; clear hb hR; refine ⟨_, rfl, ((S'.drop (List.sublist_cons_self _ _)).weak fun _ _ => trivial), fun _ => ?_⟩; clear S; have S := S'; clear S'; refine nr_ ?_
      refine cl_ 4 #[.agg (opA b (.slice Ao b.f3.length co)), .agg (opA a (.slice Ap a.f3.length cp)), .bool true] ?_ Tryd.func26; refine (Include_any b a true _ _ _ (GW.below HG.out S.below) S.now.1.2.C S.now.2.C HSb.out.good.fine HSa.out.good.fine).mono ?_; rintro e_ w7 ⟨v, rfl, hR, hb⟩; rw [HI1.out] at hR ⊢; have S' := S.addOp hb hR; obtain ⟨Av, cv, rfl⟩ := hR.slice; clear hb hR; refine ⟨_, rfl, ((S'.drop (List.sublist_cons_self _ _)).weak fun _ _ => trivial), fun _ => ?_⟩; clear S; have S := S'; clear S'; refine nr_ ?_
      refine pu_ 5 ?_; refine pu_ 6 ?_; refine pu_ 7 ?_
      refine so_ 9 0 S ?_; clear S; intro _ S; refine pu_ 10 ?_; refine done_ (by kernel_rfl) ?_; replace S := Aside0.mk S; go_wp2_with (fail); go_meet; exact ⟨_, _, _, rfl, rfl, Aside0.mk (S.out.weak fun _ _ => trivial)⟩
  · intro K hK; refine kn_ 41 zA S ?_; intro _ _ S'; refine hK.out _ _ ((S'.drop (List.sublist_cons_self _ _)).weak fun _ _ => trivial) (fun _ => ?_); clear hK; clear S; have S := S'; clear S'; refine nr_ ?_
    refine cl_ 1 #[.agg (opA b (.slice none 0 0))] ?_ Tryd.func22; refine (rcopy_any b _ _ (opC_nil _ _ HNb.out) HSb.out.good.fine).mono ?_; rintro e_ w7 ⟨v, rfl, hR, hb⟩; have S' := S.addOp hb hR; obtain ⟨Ao, co, rfl⟩ := hR.slice; clear hb hR; refine ⟨_, rfl, ((S'.drop (List.sublist_cons_self _ _)).weak fun _ _ => trivial), fun _ => ?_⟩; clear S; have S := S'; clear S'; refine nr_ ?_
    refine cl_ 3 #[.agg (opA a (.slice none 0 0))] ?_ Tryd.func22; refine (rcopy_any a _ _ (opC_nil _ _ HNa.out) HSa.out.good.fine).mono ?_; rintro e_ w7 ⟨v, rfl, hR, hb⟩; have S' := S.addOp hb hR; obtain ⟨Ap, cp, rfl⟩ := hR.slice; clear hb hR; refine ⟨_, rfl, ((S'.drop (List.sublist_cons_self _ _)).weak fun _ _ => trivial), fun _ => ?_⟩; clear S; have S := S'; clear S'; refine nr_ ?_
    refine cl_ 4 #[.agg (opA b (.slice Ao b.f3.length co)), .agg (opA a (.slice Ap a.f3.length cp)), .bool true] ?_ Tryd.func26; refine (Include_any b a true _ _ _ (GW.below HG.out S.below) S.now.1.2.C S.now.2.C HSb.out.good.fine HSa.out.good.fine).mono ?_; rintro e_ w7 ⟨v, rfl, hR, hb⟩; rw [HI1.out] at hR ⊢; have S' := S.addOp hb hR; obtain ⟨Av, cv, rfl⟩ := hR.slice; clear hb hR; refine ⟨_, rfl, ((S'.drop (List.sublist_cons_self _ _)).weak fun _ _ => trivial), fun _ => ?_⟩; clear S; have S := S'; clear S'; refine nr_ ?_
    refine pu_ 5 ?_; refine pu_ 6 ?_; refine pu_ 7 ?_
    refine so_ 9 0 S ?_; clear S; intro _ S; refine pu_ 10 ?_; refine done_ (by kernel_rfl) ?_; replace S := Aside0.mk S; go_wp2_with (fail); go_meet; exact ⟨_, _, _, rfl, rfl, Aside0.mk (S.out.weak fun _ _ => trivial)⟩
 case rest =>
  obtain ⟨g7, Ab, cb, rfl, rfl, S⟩ := hcut
  go_upto_region 6 with (fail)
  go_cut [9, 10] (fun v9 v10 wc => ∃ g Av cv, v9 = .pointer (some ⟨g, 0, none⟩) ∧ v10 = .int .i64 0 ∧ Aside0 (St w wc [(g, 41, opA (incS a b false) (.slice Av (incS a b false).f3.length cv)), (g7, 41, opA (incS b a true) (.slice Ab (incS b a true).f3.length cb)), (g6, 41, opA b (.slice none 0 0)), (g5, 41, opA a (.slice none 0 0)), (g1, 25, #[.int .i64 len, .slice A sn sc, .slice B sm sd, .int .i64 i, .int .i64 j, .bool e, v3])] (fun _ => True)))
  case first =>
   refine rg_start (n := 11) (fun W => St w W _ (fun _ => True)) [9] (S.out.weak fun _ _ => trivial) (fun _ h => h.drew) ?_
   clear S
   intro _ S
   refine ld_ 0 2 S ?_; refine ld_ 2 1 S ?_
   refine re_ (rc_ 1 ?_ (rc_ 8 ?_ AllReadyL.nil))
   · intro K hK; refine kc_ #[.agg (opA a (.slice none 0 0))] ?_ Tryd.func22; refine (rcopy_any a _ _ (opC_nil _ _ HNa.out) HSa.out.good.fine).mono ?_; rintro e_ w7 ⟨v, rfl, hR, hb⟩; have S' := S.addOp hb hR; obtain ⟨Ao, co, rfl⟩ := hR.slice; clear hb hR; refine ⟨_, rfl, hK.out _ _ (S'.weak fun _ _ => trivial) (fun _ => ?_)⟩; clear hK; clear S; have S := S'; clear S'; refine nr_ ?_
     refine re_ (rc_ 3 ?_ (rc_ 8 ?_ AllReadyL.nil))
     · intro K hK; refine kc_ #[.agg (opA b (.slice none 0 0))] ?_ Tryd.func22; refine (rcopy_any b _ _ (opC_nil _ _ HNb.out) HSb.out.good.fine).mono ?_; rintro e_ w7 ⟨v, rfl, hR, hb⟩; have S' := S.addOp hb hR; obtain ⟨Ap, cp, rfl⟩ := hR.slice; clear hb hR; refine ⟨_, rfl, hK.out _ _ (S'.weak fun _ _ => trivial) (fun _ => ?_)⟩; clear hK; clear S; have S := S'; clear S'; refine nr_ ?_
       refine re_ (rc_ 4 ?_ (rc_ 8 ?_ AllReadyL.nil))
       · intro K hK; refine kc_ #[.agg (opA a (.slice Ao a.f3.length co)), .agg (opA b (.slice Ap b.f3.length cp)), .bool false] ?_ Tryd.func26; refine (Include_any a b false _ _ _ (GW.below HG.out S.below) S.now.1.2.C S.now.2.C HSa.out.good.fine HSb.out.good.fine).mono ?_; rintro e_ w7 ⟨v, rfl, hR, hb⟩; rw [HI2.out] at hR ⊢; have S' := S.addOp hb hR; obtain ⟨Av, cv, rfl⟩ := hR.slice; clear hb hR; refine ⟨_, rfl, hK.out _ _ (S'.weak fun _ _ => trivial) (fun _ => ?_)⟩; clear hK; clear S; have S := S'; clear S'; refine nr_ ?_
         refine pu_ 5 ?_; refine pu_ 6 ?_; refine pu_ 7 ?_
         refine re_ (rc_ 8 ?_ AllReadyL.nil)
         intro K hK; refine kn_ 41 zA S ?_; intro _ _ S'; refine hK.out _ _ ((S'.drop (List.sublist_cons_self _ _)).weak fun _ _ => trivial) (fun _ => ?_); clear hK; clear S; have S := S'; clear S'; refine nr_ ?_
         refine so_ 9 0 S ?_; clear S; intro _ S; refine pu_ 10 ?_; refine done_ (by kernel_rfl) ?_; replace S := Aside0.mk S; go_wp2_with (fail); go_meet; exact ⟨_, _, _, rfl, rfl, Aside0.mk (S.out.weak fun _ _ => trivial)⟩
       · intro K hK; refine kn_ 41 zA S ?_; intro _ _ S'; refine hK.out _ _ ((S'.drop (List.sublist_cons_self _ _)).weak fun _ _ => trivial) (fun _ => ?_); clear hK; clear S; have S := S'; clear S'; refine nr_ ?_
         refine cl_ 4 #[.agg (opA a (.slice Ao a.f3.length co)), .agg (opA b (.slice Ap b.f3.length cp)), .bool false] ?_ Tryd.func26; refine (Include_any a b false _ _ _ (GW.below HG.out S.below) S.now.1.2.C S.now.2.C HSa.out.good.fine HSb.out.good.fine).mono ?_; rintro e_ w7 ⟨v, rfl, hR, hb⟩; rw [HI2.out] at hR ⊢; have S' := S.addOp hb hR; obtain ⟨Av, cv, rfl⟩ := hR.slice; clear hb hR; refine ⟨_, rfl, ((S'.drop (List.sublist_cons_self _ _)).weak fun _ _ => trivial), fun _ => ?_⟩; clear S; have S := S'; clear S'; refine nr_ ?_
         refine pu_ 5 ?_; refine pu_ 6 ?_; refine pu_ 7 ?_
         refine so_ 9 0 S ?_; clear S; intro _ S; refine pu_ 10 ?_; refine done_ (by kernel_rfl) ?_; replace S := Aside0.mk S; go_wp2_with (fail); go_meet; exact ⟨_, _, _, rfl, rfl, Aside0.mk (S.out.weak fun _ _ => trivial)⟩
     · intro K hK; refine kn_ 41 zA S ?_; intro _ _ S'; refine hK.out _ _ ((S'.drop (List.sublist_cons_self _ _)).weak fun _ _ => trivial) (fun _ => ?_); clear hK; clear S; have S := S'; clear S'; refine nr_ ?_
       refine cl_ 3 #[.agg (opA b (.slice none 0 0))] ?_ Tryd.func22; refine (rcopy_any b _ _ (opC_nil _ _ HNb.out) HSb.out.good.fine).mono ?_; rintro e_ w7 ⟨v, rfl, hR, hb⟩; have S' := S.addOp hb hR; obtain ⟨Ap, cp, rfl⟩ := hR.slice; clear hb hR; refine ⟨_, rfl, ((S'.drop (List.sublist_cons_self _ _)).weak fun _ _ => trivial), fun _ => ?_⟩; clear S; have S := S'; clear S'; refine nr_ ?_
       refine cl_ 4 #[.agg (opA a (.slice Ao a.f3.length co)), .agg (opA b (.slice Ap b.f3.length cp)), .bool false] ?_ Tryd.func26; refine (Include_any a b false _ _ _ (GW.below HG.out S.below) S.now.1.2.C S.now.2.C HSa.out.good.fine HSb.out.good.fine).mono ?_; rintro e_ w7 ⟨v, rfl, hR, hb⟩; rw [HI2.out] at hR ⊢; have S' := S.addOp hb hR; obtain ⟨Av, cv, rfl⟩ := hR.slice; clear hb hR; refine ⟨_, rfl, ((S'.drop (List.sublist_cons_self _ _)).weak fun _ _ => trivial), fun _ => ?_⟩; clear S; have S := S'; clear S'; refine nr_ ?_
       refine pu_ 5 ?_; refine pu_ 6 ?_; refine pu_ 7 ?_
       refine so_ 9 0 S ?_; clear S; intro _ S; refine pu_ 10 ?_; refine done_ (by kernel_rfl) ?_; replace S := Aside0.mk S; go_wp2_with (fail); go_meet; exact ⟨_, _, _, rfl, rfl, Aside0.mk (S.out.weak fun _ _ => trivial)⟩
   · intro K hK; refine kn_ 41 zA S ?_; intro _ _ S'; refine hK.out _ _ ((S'.drop (List.sublist_cons_self _ _)).weak fun _ _ => trivial) (fun _ => ?_); clear hK; clear S; have S := S'; clear S'; refine nr_ ?_
     refine cl_ 1 #[.agg (opA a (.slice none 0 0))] ?_ Tryd.func22; refine (rcopy_any a _ _ (opC_nil _ _ HNa.out) HSa.out.good.fine).mono ?_; rintro e_ w7 ⟨v, rfl, hR, hb⟩; have S' := S.addOp hb hR; obtain ⟨Ao, co, rfl⟩ := hR.slice; clear hb hR; refine ⟨_, rfl, ((S'.drop (List.sublist_cons_self _ _)).weak fun _ _ => trivial), fun _ => ?_⟩; clear S; have S := S'; clear S'; refine nr_ ?_
     refine cl_ 3 #[.agg (opA b (.slice none 0 0))] ?_ Tryd.func22; refine (rcopy_any b _ _ (opC_nil _ _ HNb.out) HSb.out.good.fine).mono ?_; rintro e_ w7 ⟨v, rfl, hR, hb⟩; have S' := S.addOp hb hR; obtain ⟨Ap, cp, rfl⟩ := hR.slice; clear hb hR; refine ⟨_, rfl, ((S'.drop (List.sublist_cons_self _ _)).weak fun _ _ => trivial), fun _ => ?_⟩; clear S; have S := S'; clear S'; refine nr_ ?_
     refine cl_ 4 #[.agg (opA a (.slice Ao a.f3.length co)), .agg (opA b (.slice Ap b.f3.length cp)), .bool false] ?_ Tryd.func26; refine (Include_any a b false _ _ _ (GW.below HG.out S.below) S.now.1.2.C S.now.2.C HSa.out.good.fine HSb.out.good.fine).mono ?_; rintro e_ w7 ⟨v, rfl, hR, hb⟩; rw [HI2.out] at hR ⊢; have S' := S.addOp hb hR; obtain ⟨Av, cv, rfl⟩ := hR.slice; clear hb hR; refine ⟨_, rfl, ((S'.drop (List.sublist_cons_self _ _)).weak fun _ _ => trivial), fun _ => ?_⟩; clear S; have S := S'; clear S'; refine nr_ ?_
     refine pu_ 5 ?_; refine pu_ 6 ?_; refine pu_ 7 ?_
     refine so_ 9 0 S ?_; clear S; intro _ S; refine pu_ 10 ?_; refine done_ (by kernel_rfl) ?_; replace S := Aside0.mk S; go_wp2_with (fail); go_meet; exact ⟨_, _, _, rfl, rfl, Aside0.mk (S.out.weak fun _ _ => trivial)⟩
  case rest =>
   obtain ⟨g9, Aa, ca, rfl, rfl, S⟩ := hcut
   have HBW := Aside0.mk S.out.below
   have HTa := Aside0.mk (S.out.atBox' 3 rfl); have HTb := Aside0.mk (S.out.atBox' 2 rfl); have HTb1 := Aside0.mk (S.out.atBox' 1 rfl); have HTa1 := Aside0.mk (S.out.atBox' 0 rfl)
   replace HG := Aside0.mk (GW.below HG.out S.out.below)
   replace S := Aside0.mk S.out.re
   go_upto_region 9 with (first | (go_at_call 23; (with_reducible refine (num_any _ _).mono ?_); rintro e_ w7 ⟨rfl, hb⟩; replace S := Aside0.mk (S.out.step hb); clear hb))
   have hsb2 := both_stand (l := rowE n) (a := a) (b := b) (by have h := HMA.out.stands; unfold rowE; simpa using h) (by have h := HMB.out.stands; unfold rowE; simpa using h) (by unfold rowE; have := HN.out.1; simp; omega)
   have HST := Aside0.mk (And.intro hsb2.1 hsb2.2.1); have HEQ := Aside0.mk hsb2.2.2
   have HNb1 := Aside0.mk (incS_nil (e := true) (a := b) (b := a) (by rw [HEB.out]) (by rw [HEA.out]) HNb.out)
   have HNa1 := Aside0.mk (incS_nil (e := false) (a := a) (b := b) (by rw [HEA.out]) (by rw [HEB.out]) HNa.out)
   have HN9 := Aside0.mk (show n ≤ 1000 by have := HN.out.1; omega)
   clear hsb2
   go_cut [11, 12] (fun v_ z_ wz => ∃ A c, v_ = .slice A (foldE (rowE n) [a, incS b a true]).length c ∧ z_ = .bool true ∧ Aside0 (Below wc.heap.size wc wz ∧ CellsC wz (.slice A (foldE (rowE n) [a, incS b a true]).length c) (foldE (rowE n) [a, incS b a true])))
   case first =>
    refine rg_start (n := 11) (fun W => St wc W _ (fun _ => True)) [] (S.out.weak fun _ _ => trivial) (fun _ h => h.drew) ?_
    clear S
    intro _ S
    refine pu_ 0 ?_; refine le_ 2 (opA a (.slice none 0 0)) S (fun _ h => HTa.out _ h.below) ?_; refine le_ 3 (opA (incS b a true) (.slice Ab (incS b a true).f3.length cb)) S (fun _ h => HTb1.out _ h.below) ?_
    refine re_ (rc_ 1 ?_ (rc_ 4 ?_ AllReadyL.nil))
    · intro K hK; refine kc_ #[.int .i64 n] ?_ Tryd.func19; refine (row_any n _ HN9.out).mono ?_; rintro e_ w7 ⟨vr, rfl, hR, hb⟩; have S' := S.addR hb hR; refine ⟨_, rfl, hK.out _ _ (S'.weak fun _ _ => trivial) (fun _ => ?_)⟩; clear hK hb hR; clear S; have S := S'; clear S'; refine nr_ ?_
      refine bs_ 4 (opA a (.slice none 0 0) ++ opA (incS b a true) (.slice Ab (incS b a true).f3.length cb)) 2 S ?_; intro gl _ S'; refine ⟨(S'.drop (List.sublist_cons_self _ _)).weak fun _ _ => trivial, fun _ => ?_⟩; clear S; have S := S'; clear S'; refine nr_ ?_
      refine cl_ 5 #[vr, .slice (some ⟨gl, 0, none⟩) 2 2] ?_ Tryd.func24; refine (fold_any (rowE n) [a, incS b a true] _ _ _ S.now.2 (runC_box2 (S.at_ 0 rfl) (opC_nil _ _ HNa.out) (opC_empty _ _ _ _ HNb1.out)) (by simp) HST.out.1).mono ?_; rintro e_ w7 ⟨r, rfl, hR, hb⟩; obtain ⟨Ar, cr, rfl, hR1, hR2⟩ := hR; refine ⟨_, rfl, ((S.step hb).drop (List.sublist_cons_self _ _)).weak fun _ _ => trivial, fun S0 => ?_⟩; clear S; refine nr_ ?_; refine pu_ 6 ?_; refine pu_ 7 ?_; refine pu_ 8 ?_; refine pu_ 9 ?_; refine pu_ 10 ?_; refine done_ (by kernel_rfl) ?_; go_wp2_with (fail); go_meet; exact ⟨_, _, rfl, rfl, ⟨S0.below, Ar, cr, rfl, hR1, hR2⟩⟩
    · intro K hK; refine kb_ (opA a (.slice none 0 0) ++ opA (incS b a true) (.slice Ab (incS b a true).f3.length cb)) 2 S ?_; intro gl _ S'; refine hK.out _ _ ((S'.drop (List.sublist_cons_self _ _)).weak fun _ _ => trivial) (fun _ => ?_); clear hK; clear S; have S := S'; clear S'; refine nr_ ?_
      refine cl_ 1 #[.int .i64 n] ?_ Tryd.func19; refine (row_any n _ HN9.out).mono ?_; rintro e_ w7 ⟨vr, rfl, hR, hb⟩; have S' := S.addR hb hR; refine ⟨_, rfl, (S'.drop (List.sublist_cons_self _ _)).weak fun _ _ => trivial, fun _ => ?_⟩; clear hb hR; clear S; have S := S'; clear S'; refine nr_ ?_
      refine cl_ 5 #[vr, .slice (some ⟨gl, 0, none⟩) 2 2] ?_ Tryd.func24; refine (fold_any (rowE n) [a, incS b a true] _ _ _ S.now.2 (runC_box2 (S.at_ 0 rfl) (opC_nil _ _ HNa.out) (opC_empty _ _ _ _ HNb1.out)) (by simp) HST.out.1).mono ?_; rintro e_ w7 ⟨r, rfl, hR, hb⟩; obtain ⟨Ar, cr, rfl, hR1, hR2⟩ := hR; refine ⟨_, rfl, ((S.step hb).drop (List.sublist_cons_self _ _)).weak fun _ _ => trivial, fun S0 => ?_⟩; clear S; refine nr_ ?_; refine pu_ 6 ?_; refine pu_ 7 ?_; refine pu_ 8 ?_; refine pu_ 9 ?_; refine pu_ 10 ?_; refine done_ (by kernel_rfl) ?_; go_wp2_with (fail); go_meet; exact ⟨_, _, rfl, rfl, ⟨S0.below, Ar, cr, rfl, hR1, hR2⟩⟩
   case rest =>
    obtain ⟨Ax, cx, rfl, rfl, hX⟩ := hcut
    have HX1 := Aside0.mk hX.out.2
    replace HBW := Aside0.mk (below_then HBW.out HBW.out.size hX.out.1)
    replace HG := Aside0.mk (GW.below HG.out hX.out.1)
    have HBz := hX.out.1
    replace HTa := Aside0.mk (fun W hW => HTa.out W (below_then HBz HBz.size hW)); replace HTb := Aside0.mk (fun W hW => HTb.out W (below_then HBz HBz.size hW))
    replace HTa1 := Aside0.mk (fun W hW => HTa1.out W (below_then HBz HBz.size hW)); clear HTb1
    clear hX HBz S
    have S := Aside0.mk (St.init wc (F := fun _ => True) (fun _ _ => trivial))
    go_upto_region 10 with (fail)
    go_cut [13, 14] (fun v_ z_ wy => ∃ A c, v_ = .slice A (foldE (rowE n) [b, incS a b false]).length c ∧ z_ = .bool true ∧ Aside0 (Below wc.heap.size wc wy ∧ CellsC wy (.slice A (foldE (rowE n) [b, incS a b false]).length c) (foldE (rowE n) [b, incS a b false])))
    case first =>
     refine rg_start (n := 11) (fun W => St wc W _ (fun _ => True)) [] (S.out.weak fun _ _ => trivial) (fun _ h => h.drew) ?_
     clear S
     intro _ S
     refine pu_ 0 ?_; refine le_ 2 (opA b (.slice none 0 0)) S (fun _ h => HTb.out _ h.below) ?_; refine le_ 3 (opA (incS a b false) (.slice Aa (incS a b false).f3.length ca)) S (fun _ h => HTa1.out _ h.below) ?_
     refine re_ (rc_ 1 ?_ (rc_ 4 ?_ AllReadyL.nil))
     · intro K hK; refine kc_ #[.int .i64 n] ?_ Tryd.func19; refine (row_any n _ HN9.out).mono ?_; rintro e_ w7 ⟨vr, rfl, hR, hb⟩; have S' := S.addR hb hR; refine ⟨_, rfl, hK.out _ _ (S'.weak fun _ _ => trivial) (fun _ => ?_)⟩; clear hK hb hR; clear S; have S := S'; clear S'; refine nr_ ?_
       refine bs_ 4 (opA b (.slice none 0 0) ++ opA (incS a b false) (.slice Aa (incS a b false).f3.length ca)) 2 S ?_; intro gl _ S'; refine ⟨(S'.drop (List.sublist_cons_self _ _)).weak fun _ _ => trivial, fun _ => ?_⟩; clear S; have S := S'; clear S'; refine nr_ ?_
       refine cl_ 5 #[vr, .slice (some ⟨gl, 0, none⟩) 2 2] ?_ Tryd.func24; refine (fold_any (rowE n) [b, incS a b false] _ _ _ S.now.2 (runC_box2 (S.at_ 0 rfl) (opC_nil _ _ HNb.out) (opC_empty _ _ _ _ HNa1.out)) (by simp) HST.out.2).mono ?_; rintro e_ w7 ⟨r, rfl, hR, hb⟩; obtain ⟨Ar, cr, rfl, hR1, hR2⟩ := hR; refine ⟨_, rfl, ((S.step hb).drop (List.sublist_cons_self _ _)).weak fun _ _ => trivial, fun S0 => ?_⟩; clear S; refine nr_ ?_; refine pu_ 6 ?_; refine pu_ 7 ?_; refine pu_ 8 ?_; refine pu_ 9 ?_; refine pu_ 10 ?_; refine done_ (by kernel_rfl) ?_; go_wp2_with (fail); go_meet; exact ⟨_, _, rfl, rfl, ⟨S0.below, Ar, cr, rfl, hR1, hR2⟩⟩
     · intro K hK; refine kb_ (opA b (.slice none 0 0) ++ opA (incS a b false) (.slice Aa (incS a b false).f3.length ca)) 2 S ?_; intro gl _ S'; refine hK.out _ _ ((S'.drop (List.sublist_cons_self _ _)).weak fun _ _ => trivial) (fun _ => ?_); clear hK; clear S; have S := S'; clear S'; refine nr_ ?_
       refine cl_ 1 #[.int .i64 n] ?_ Tryd.func19; refine (row_any n _ HN9.out).mono ?_; rintro e_ w7 ⟨vr, rfl, hR, hb⟩; have S' := S.addR hb hR; refine ⟨_, rfl, (S'.drop (List.sublist_cons_self _ _)).weak fun _ _ => trivial, fun _ => ?_⟩; clear hb hR; clear S; have S := S'; clear S'; refine nr_ ?_
       refine cl_ 5 #[vr, .slice (some ⟨gl, 0, none⟩) 2 2] ?_ Tryd.func24; refine (fold_any (rowE n) [b, incS a b false] _ _ _ S.now.2 (runC_box2 (S.at_ 0 rfl) (opC_nil _ _ HNb.out) (opC_empty _ _ _ _ HNa1.out)) (by simp) HST.out.2).mono ?_; rintro e_ w7 ⟨r, rfl, hR, hb⟩; obtain ⟨Ar, cr, rfl, hR1, hR2⟩ := hR; refine ⟨_, rfl, ((S.step hb).drop (List.sublist_cons_self _ _)).weak fun _ _ => trivial, fun S0 => ?_⟩; clear S; refine nr_ ?_; refine pu_ 6 ?_; refine pu_ 7 ?_; refine pu_ 8 ?_; refine pu_ 9 ?_; refine pu_ 10 ?_; refine done_ (by kernel_rfl) ?_; go_wp2_with (fail); go_meet; exact ⟨_, _, rfl, rfl, ⟨S0.below, Ar, cr, rfl, hR1, hR2⟩⟩
    case rest =>
     obtain ⟨Ay, cy, rfl, rfl, hX⟩ := hcut
     have HY1 := Aside0.mk hX.out.2
     replace HBW := Aside0.mk (below_then HBW.out HBW.out.size hX.out.1)
     replace HG := Aside0.mk (GW.below HG.out hX.out.1)
     have HBz := hX.out.1
     replace HX1 := Aside0.mk (HX1.out.below HBz)
     replace HTa := Aside0.mk (fun W hW => HTa.out W (below_then HBz HBz.size hW)); replace HTb := Aside0.mk (fun W hW => HTb.out W (below_then HBz HBz.size hW))
     clear HTa1
     clear hX HBz S
     have S := Aside0.mk (St.init wc (F := fun _ => True) (fun _ _ => trivial))
     obtain ⟨X, hXe⟩ : ∃ X, X = foldE (rowE n) [a, incS b a true] := ⟨_, rfl⟩
     have hye : foldE (rowE n) [b, incS a b false] = X := by rw [hXe]; exact HEQ.out.symm
     rw [hye] at HY1 ⊢
     rw [← hXe] at HX1 ⊢
     have hxl : X.length = n + (wid a).toNat + (wid b).toNat := by
      have h1 := HMA.out.stands; have h2 := HMB.out.stands
      have e0 : (rowE n).length = n := by unfold rowE; simp
      have h1' : Stands a (rowE n).length := by rw [e0]; exact h1
      have h3 := doesE_len h1'
      have h4 : Stands (incS b a true) (doesE (rowE n) a).length := by rw [h3, e0]; exact inc_stands (by have := HN.out.1; omega) h2 h1
      have h5 := doesE_len h4
      have h6 : wid (incS b a true) = wid b := by
       rw [incS_ii (by rw [HEB.out]) (by rw [HEA.out])]
       split <;> rfl
      rw [hXe]
      show (doesE (doesE (rowE n) a) (incS b a true)).length = _
      rw [h5, h3, e0, h6]
     have hwa := HMA.out.stands.wid; have hwb := HMB.out.stands.wid
     have HXL := Aside0.mk hxl
     have hw1 : IntKind.i64.wrap ((n : Int) + wid a) = (n : Int) + wid a := IntWalk.i64_in _ (by have := HN.out.1; omega)
     have hw2 : IntKind.i64.wrap ((n : Int) + wid a + wid b) = (n : Int) + wid a + wid b := IntWalk.i64_in _ (by have := HN.out.1; omega)
     have hne : (((X.length : Nat) : Int) != (n : Int) + wid a + wid b) = false := bne_eq_false_iff_eq.mpr (by omega)
     have HWA := Aside0.mk hwa; have HWB := Aside0.mk hwb; have HXE := Aside0.mk hXe
     clear hye hxl hwa hwb hXe
     go_upto_region 11 with (fail)
     refine rg_start (n := 24) (fun W => St wc W _ (fun _ => True)) [] (S.out.weak fun _ _ => trivial) (fun _ h => h.drew) ?_
     clear S
     intro _ S
     refine pu_ 0 ?_; refine pu_ 1 ?_; refine pu_ 2 ?_; refine pu_ 3 ?_; refine pu_ 4 ?_; refine pu_ 5 ?_; refine pu_ 6 ?_; refine pu_ 7 ?_; refine pu_ 8 ?_
     refine cl_ 9 #[.slice Ax X.length cx, .slice Ay X.length cy] ?_ Tryd.func27
     refine (eq_any X _ _ _ (HX1.out.below S.below) (HY1.out.below S.below) (by have := HXL.out; have := HN.out.1; have := HWA.out; have := HWB.out; omega)).mono ?_
     rintro e_ w7 ⟨rfl, hb⟩; refine ⟨_, rfl, S.step hb, fun S' => ?_⟩; clear S hb; have S := S'; clear S'; refine nr_ ?_
     refine pu_ 10 ?_; refine pu_ 11 ?_; refine pu_ 12 ?_; refine pu_ 13 ?_; refine pu_ 14 ?_; refine pu_ 15 ?_
     refine le_ 16 (opA a (.slice none 0 0)) S (fun _ h => HTa.out _ h.below) ?_
     refine le_ 19 (opA b (.slice none 0 0)) S (fun _ h => HTb.out _ h.below) ?_
     refine cl_ 17 #[.agg (opA a (.slice none 0 0))] ?_ Tryd.func28
     refine (lwid_any HMA.out.stands _ _ (opC_nil _ _ HNa.out)).mono ?_
     rintro e_ w7 ⟨rfl, hb⟩; refine ⟨_, rfl, S.step hb, fun S' => ?_⟩; clear S hb; have S := S'; clear S'; refine nr_ ?_
     refine pu_ 18 ?_
     refine cl_ 20 #[.agg (opA b (.slice none 0 0))] ?_ Tryd.func28
     refine (lwid_any HMB.out.stands _ _ (opC_nil _ _ HNb.out)).mono ?_
     rintro e_ w7 ⟨rfl, hb⟩; refine ⟨_, rfl, S.step hb, fun S' => ?_⟩; clear S hb; have S := S'; clear S'; refine nr_ ?_
     refine pu_ 21 ?_; refine pu_ 22 ?_; refine pu_ 23 ?_; refine done_ (by kernel_rfl) ?_
     replace S := Aside0.mk S
     go_wp2_with (fail)
     have hS0 := S.out.below
     refine earlier_loop a b n g5 g6 c (wid a) (wid b) X Ax cx w _ _ _ _ _ _ _ _ _ _ _ _ _ _ _ _ _ _ _ _ _ _ _ _ _ _ _ _ _ _ _ _ _ _ _ _ _ _ _ _ _ _ _ _ _ _ _ _ _ _ _ _ _ _ _ _ _ _ _ _ _ _ _ _ _ _ _ _ _ _ _ _ _ _ _ _ _ _ _ _ _ _ _ _ _ _ _ _ _ _ _ _ _ _ _ _ _ _ _ _ _ _ _ _ _ _ _ _ _ _ _ _ _ _ _ _ _ _ _ _ _ _ _ _ _ _ _ _ _ _ _ _ _ _ _ _ _ _ _ _ _ _ _ _ _ _ _ _ _ _ _ _ _ _ _ _ _ _ _ _ _ _ _ _ HMA.out.stands HMB.out.stands HNa.out HNb.out rfl rfl (by have := HN.out; omega) HWA.out HWB.out (by have := HXL.out; have := HN.out.1; have := HWA.out; have := HWB.out; omega) (fun k hk => ?_) (HX1.out.below hS0) (fun W hW => HTa.out W (below_then hS0 hS0.size hW)) (fun W hW => HTb.out W (below_then hS0 hS0.size hW)) ?_
     · rw [HXE.out]
       have h1 := HN.out; have h2 := HWA.out; have h3 := HWB.out; have h4 := HXL.out
       exact earlier_at (by rw [HEA.out]) (by rw [HEB.out]) (by rw [HEA.out]) (by rw [HEB.out]) h1.2 HMA.out.stands HMB.out.stands k (by omega)
     · intro _ _ _ _ _ _ _ _ _ _ _ _ _ _ _ _ _ _ _ _ _ _ _ _ _ _ _ _ _ _ _ _ _ _ _ _ _ _ _ _ _ _ _ _ _ _ _ _ _ _ _ _ _ _ _ _ _ _ _ _ _ _ _ _ _ _ _ _ _ _ _ _ _ _ _ _ _ _ _ _ _ _ _ _ _ _ _ _ _ _ _ _ _ _ _ _ _ _ _ _ _ _ _ _ _ _ _ _ _ _ _ _ _ _ _ _ _ _ _ _ _ _ _ _ _ _ _ _ _ _ _ _ _ _ _ _ _ _ _ _ _ _ _ _ _ _ _ _ _ _ _ _ _ _ _ _ _ _ _ _ _ _ _ _ _ _ _ _ w' hb
       have HBF := Aside0.mk (below_then HBW.out HBW.out.size (below_then hS0 hS0.size hb))
       clear hS0 hb
       go_wp2
       go_ret
       exact ⟨rfl, HBF.out⟩
end Go.Proofs.YtloccjkcmlkifaaDoor
end
