/- XformBrings_card, part 39. -/
import Derived.Test.YtloccjkcmlkifaaDoorProg
import Derived.Test.YtloccjkcmlkifaaDoorQBr18
import Derived.Test.YtloccjkcmlkifaaDoorQBr3
import Derived.Test.YtloccjkcmlkifaaDoorQBr38
import Derived.Test.YtloccjkcmlkifaaDoorQBr25
import Derived.Test.YtloccjkcmlkifaaDoorQBr35
import Derived.Test.YtloccjkcmlkifaaDoorQBr26
import Derived.Test.YtloccjkcmlkifaaDoorQBr1
import Derived.Test.YtloccjkcmlkifaaDoorQBr9
import Derived.Test.YtloccjkcmlkifaaDoorQBr34
import Derived.Test.YtloccjkcmlkifaaDoorQBr36
import Derived.Test.YtloccjkcmlkifaaDoorQBr30

section
/- The state of a walk as one fact: what is own and written (boxes), what else is known, and that nothing elder has changed. -/
namespace Go.Proofs.YtloccjkcmlkifaaDoor
open Go.RowKit Go.Proofs.YtloccjkcmlkifaaDoorW.PrintWords

abbrev Bx := Nat × TypeId × Array Value
structure St (w0 w : World) (bs : List Bx) (F : World → Prop) : Prop where
 below : Below w0.heap.size w0 w
 box : ∀ b ∈ bs, w.heap[b.1]? = some (.cells b.2.2 b.2.1 (0, 0)) ∧ w0.heap.size ≤ b.1
 nd : (bs.map (·.1)).Nodup
 foot : Foot F w (fun k => k ∉ bs.map (·.1))
namespace St
variable {w0 w w' : World} {bs bs' : List Bx} {F F' F2 : World → Prop} {g : Nat} {t : TypeId} {cs cs' : Array Value}
theorem now (S : St w0 w bs F) : F w := S.foot.now
theorem init (w : World) (h : Foot F w (fun _ => True)) : St w w [] F := ⟨Below.refl _ _, by simp, by simp, h.mono (by simp)⟩
theorem weak (S : St w0 w bs F) (h : ∀ W, F W → F' W) : St w0 w bs F' := ⟨S.below, S.box, S.nd, S.foot.imp h⟩
theorem lt (S : St w0 w bs F) : ∀ b ∈ bs, b.1 < w.heap.size := fun b hb => blk_lt (S.box b hb).1
theorem step (S : St w0 w bs F) (hb : Below w.heap.size w w') : St w0 w' bs F :=
 ⟨below_then S.below S.below.size hb, fun b hm => ⟨blk_below (S.box b hm).1 hb, (S.box b hm).2⟩, S.nd, S.foot.step fun k _ hlt => hb.block k hlt⟩
theorem drewN (S : St w0 w bs F) (n : Nat) : St w0 (w.drewN n) bs F := S.step (pw_below_drewN (Below.refl _ _) n)
theorem drew (S : St w0 w bs F) : St w0 w.drew bs F := S.step (below_drew (Below.refl _ _))
theorem add (S : St w0 w bs F) (hb : Below w.heap.size w w') (h2 : Foot F2 w' (fun k => w.heap.size ≤ k)) : St w0 w' bs (fun W => F W ∧ F2 W) :=
 have S' := S.step hb
 ⟨S'.below, S'.box, S'.nd, fun W' hW => ⟨S'.foot W' hW, (h2.mono (fun k hk hm => by
  obtain ⟨b, hb', rfl⟩ := List.mem_map.1 hm
  exact absurd (S.lt b hb') (by omega)) : Foot F2 w' (fun k => k ∉ bs.map (·.1))) W' hW⟩⟩
theorem push (S : St w0 w bs F) (hb : Below w.heap.size w w') (hn : w'.heap[g]? = some (.cells cs t (0, 0))) (hg : g = w.heap.size) : St w0 w' ((g, t, cs) :: bs) F :=
 have S' := S.step hb
 ⟨S'.below, fun b hm => by
  rcases List.mem_cons.1 hm with rfl | hm
  · exact ⟨hn, by rw [hg]; exact S.below.size⟩
  · exact S'.box b hm, by
  rw [List.map_cons, List.nodup_cons]
  refine ⟨fun hm => ?_, S.nd⟩
  obtain ⟨b, hb', e⟩ := List.mem_map.1 hm
  have := S.lt b hb'
  have e' : b.1 = g := e
  omega, (S.foot.old hb).mono fun k hk hm => by
   rcases List.mem_cons.1 hm with h | h
   · have e' : k = g := h
     have := hk.2
     omega
   · exact hk.1 h⟩
theorem at_ (S : St w0 w bs F) (i : Nat) (e : bs[i]? = some (g, t, cs)) : w.heap[g]? = some (.cells cs t (0, 0)) := (S.box _ (List.mem_of_getElem? e)).1
theorem ge (S : St w0 w bs F) (i : Nat) (e : bs[i]? = some (g, t, cs)) : w0.heap.size ≤ g := (S.box _ (List.mem_of_getElem? e)).2
theorem drop (S : St w0 w bs F) (h : bs'.Sublist bs) : St w0 w bs' F :=
 ⟨S.below, fun b hm => S.box b (h.subset hm), (h.map _).nodup S.nd, S.foot.mono fun _ hk hm => hk ((h.map _).subset hm)⟩
theorem keptE (S : St w0 w bs F) (hb : Below w0.heap.size w0 w') (hk : ∀ k, k < w.heap.size → k ∈ bs.map (·.1) ∨ k < w0.heap.size → w'.heap[k]? = w.heap[k]?) (hF : Foot F2 w' (fun k => k ∉ bs.map (·.1))) : St w0 w' bs F2 :=
 ⟨hb, fun b hm => ⟨(hk _ (S.lt b hm) (.inl (List.mem_map.2 ⟨b, hm, rfl⟩))).trans (S.box b hm).1, (S.box b hm).2⟩, S.nd, hF⟩
theorem map_set (i : Nat) (e : bs[i]? = some (g, t, cs)) : (bs.set i (g, t, cs')).map (·.1) = bs.map (·.1) := by
 rw [List.map_set]
 have : (bs.map (·.1))[i]? = some g := by rw [List.getElem?_map, e]; rfl
 obtain ⟨hi, he⟩ := List.getElem?_eq_some_iff.1 this
 show (bs.map (·.1)).set i g = _
 rw [← he]; exact List.set_getElem_self hi
theorem put (S : St w0 w bs F) (i : Nat) (e : bs[i]? = some (g, t, cs)) (hb : Below w0.heap.size w0 w') (hg : w'.heap[g]? = some (.cells cs' t (0, 0))) (ho : ∀ k, k ≠ g → w'.heap[k]? = w.heap[k]?) : St w0 w' (bs.set i (g, t, cs')) F := by
 have hi : i < bs.length := (List.getElem?_eq_some_iff.1 e).1
 have hnd : ∀ j b, bs[j]? = some b → j ≠ i → b.1 ≠ g := fun j b hj hne hq => by
  have h1 : (bs.map (·.1))[j]? = some g := by rw [List.getElem?_map, hj]; simp [hq]
  have h2 : (bs.map (·.1))[i]? = some g := by rw [List.getElem?_map, e]; rfl
  have hjl : j < (bs.map (·.1)).length := (List.getElem?_eq_some_iff.1 h1).1
  have hil : i < (bs.map (·.1)).length := (List.getElem?_eq_some_iff.1 h2).1
  rcases Nat.lt_or_gt_of_ne hne with hlt | hlt
  · exact List.pairwise_iff_getElem.1 S.nd j i hjl hil hlt ((List.getElem?_eq_some_iff.1 h1).2.trans (List.getElem?_eq_some_iff.1 h2).2.symm)
  · exact List.pairwise_iff_getElem.1 S.nd i j hil hjl hlt ((List.getElem?_eq_some_iff.1 h2).2.trans (List.getElem?_eq_some_iff.1 h1).2.symm)
 refine ⟨hb, fun b hm => ?_, by rw [map_set i e]; exact S.nd, ?_⟩
 · obtain ⟨j, hj⟩ := List.mem_iff_getElem?.1 hm
   rw [List.getElem?_set] at hj
   by_cases hij : i = j
   rw [if_pos hij, if_pos hi] at hj
   · obtain rfl := Option.some.inj hj
     exact ⟨hg, S.ge _ e⟩
   · rw [if_neg hij] at hj
     have hm' := List.mem_of_getElem? hj
     exact ⟨(ho _ (hnd j b hj (fun h => hij h.symm))).trans (S.box b hm').1, (S.box b hm').2⟩
 · rw [map_set i e]
   exact S.foot.step fun k hk _ => ho k (fun h => hk (h ▸ (List.mem_map.2 ⟨_, List.mem_of_getElem? e, rfl⟩)))
end St
theorem below_setCell0 {w0 w : World} {g : Nat} (h : Below w0.heap.size w0 w) (hg : w0.heap.size ≤ g) (j : Nat) (v : Value) : Below w0.heap.size w0 (w.setCell ⟨g, j, none⟩ v) := h.setCell hg _
theorem setCells_far {g : Nat} : ∀ (vs : List Value) (o : Nat) (W : World) (k : Nat), k ≠ g → (W.setCells g o vs).heap[k]? = W.heap[k]?
 | [], _, _, _, _ => rfl
 | v :: r, o, W, k, hk => by
  show ((W.setCell ⟨g, o, none⟩ v).setCells g (o + 1) r).heap[k]? = _
  rw [setCells_far r (o + 1) _ k hk]
  exact Below.heap_setCell W ⟨g, o, none⟩ v k hk

theorem ix0 {b0 : Bx} {l : List Bx} : (b0 :: l)[0]? = some b0 := rfl
theorem ix1 {b0 b1 : Bx} {l : List Bx} : (b0 :: b1 :: l)[1]? = some b1 := rfl
theorem ix2 {b0 b1 b2 : Bx} {l : List Bx} : (b0 :: b1 :: b2 :: l)[2]? = some b2 := rfl
theorem ix3 {b0 b1 b2 b3 : Bx} {l : List Bx} : (b0 :: b1 :: b2 :: b3 :: l)[3]? = some b3 := rfl
theorem ix4 {b0 b1 b2 b3 b4 : Bx} {l : List Bx} : (b0 :: b1 :: b2 :: b3 :: b4 :: l)[4]? = some b4 := rfl
theorem ix5 {b0 b1 b2 b3 b4 b5 : Bx} {l : List Bx} : (b0 :: b1 :: b2 :: b3 :: b4 :: b5 :: l)[5]? = some b5 := rfl
theorem ix6 {b0 b1 b2 b3 b4 b5 b6 : Bx} {l : List Bx} : (b0 :: b1 :: b2 :: b3 :: b4 :: b5 :: b6 :: l)[6]? = some b6 := rfl
theorem ix7 {b0 b1 b2 b3 b4 b5 b6 b7 : Bx} {l : List Bx} : (b0 :: b1 :: b2 :: b3 :: b4 :: b5 :: b6 :: b7 :: l)[7]? = some b7 := rfl
section
variable {P : Program} {ops : Array Oper} {rest : List Oper} {o : Oper} {a : Act} {Q : Exit → Act → World → Prop} {w0 W : World} {bs : List Bx} {F : World → Prop} {g : Nat} {t : TypeId} {cs : Array Value}
theorem ev_run {W1 : World} {v : Value} (hw : Region.wanted o (yielded ops a.tmps) = true) (hrun : (execOp a.eval o).run P W = .ok (.value v) W1) (h : wpList P ops Q rest (a.put o.dst v) W1) : wpList P ops Q (o :: rest) a W := by
 refine wpList_step fun K hK => ?_
 rw [if_pos hw]
 unfold Oper.wp
 rw [hrun]
 exact hK _ _ h
theorem ev_skip {W1 : World} (hw : Region.wanted o (yielded ops a.tmps) = true) (hN : o.dst = none) (hrun : (execOp a.eval o).run P W = .ok .skip W1) (h : wpList P ops Q rest a W1) : wpList P ops Q (o :: rest) a W := by
 refine wpList_step fun K hK => ?_
 rw [if_pos hw]
 unfold Oper.wp
 rw [hrun]
 show K (a.put o.dst undef) W1
 rw [hN]
 exact hK _ _ h
theorem wanted_plain {y : Nat → Option Bool} (h : o.guard = none) : Region.wanted o y = true := by unfold Region.wanted; rw [h]
theorem wanted_on {y : Nat → Option Bool} {j : Nat} {b : Bool} (h : o.guard = some (j, b)) (hy : y j = some b) : Region.wanted o y = true := by unfold Region.wanted; rw [h]; simp [hy]
theorem gate_box {t : TypeId} {x : Operand} (_ho : o.op = .box t x) (h : wpList P ops Q (o :: rest) a W) : wpList P ops Q (o :: rest) a W := h
theorem gate_new {t : TypeId} (_ho : o.op = .alloc t) (h : wpList P ops Q (o :: rest) a W) : wpList P ops Q (o :: rest) a W := h
theorem gate_load {t : TypeId} {x : Operand} (_ho : o.op = .load t x) (h : wpList P ops Q (o :: rest) a W) : wpList P ops Q (o :: rest) a W := h
theorem gate_st {t : TypeId} {x y : Operand} (_ho : o.op = .store t x y) (h : wpList P ops Q (o :: rest) a W) : wpList P ops Q (o :: rest) a W := h
theorem ev_box (S : Aside0 (St w0 W bs F)) {t : TypeId} {x : Operand} {cs : Array Value} {N : Tmp}
 (h : ∀ g w', Aside0 (St w0 w' ((g, t, cs) :: bs) F) → wpList P ops Q rest (a.put (some N) (.pointer (some ⟨g, 0, none⟩))) w')
 (ho : o.op = .box t x := by rfl) (hx : a.eval x = .agg cs := by rfl) (hd : o.dst = some N := by rfl) (hw : Region.wanted o (yielded ops a.tmps) = true := by first | exact wanted_plain rfl | (refine wanted_on rfl ?_; simp [yielded]))
 (hrun : (execOp a.eval o).run P W = .ok (.value (.pointer (some ⟨W.heap.size, 0, none⟩))) (W.alloc (.cells cs t (0, 0))) := by first | (go_simp; done) | (go_simp; rfl)) : wpList P ops Q (o :: rest) a W :=
 have _ := ho; have _ := hx
 ev_run hw hrun (by rw [hd]; exact h _ _ ⟨S.out.push (below_alloc (Below.refl _ _) _) (blk_new W _) rfl⟩)
theorem ev_new (S : Aside0 (St w0 W bs F)) (t : TypeId) (cs : Array Value) {N : Tmp}
 (h : ∀ g w', Aside0 (St w0 w' ((g, t, cs) :: bs) F) → wpList P ops Q rest (a.put (some N) (.pointer (some ⟨g, 0, none⟩))) w')
 (ho : o.op = .alloc t := by rfl) (hd : o.dst = some N := by rfl) (hw : Region.wanted o (yielded ops a.tmps) = true := by first | exact wanted_plain rfl | (refine wanted_on rfl ?_; simp [yielded]))
 (hrun : (execOp a.eval o).run P W = .ok (.value (.pointer (some ⟨W.heap.size, 0, none⟩))) (W.alloc (.cells cs t (0, 0))) := by first | (go_simp; done) | (go_simp; rfl)) : wpList P ops Q (o :: rest) a W :=
 have _ := ho
 ev_run hw hrun (by rw [hd]; exact h _ _ ⟨S.out.push (below_alloc (Below.refl _ _) _) (blk_new W _) rfl⟩)
theorem ev_load (S : Aside0 (St w0 W bs F)) {i : Nat} {N : Tmp} {ty : TypeId} {x : Operand} {d : TypeDesc}
 (h : wpList P ops Q rest (a.put (some N) (.agg cs)) W)
 (ho : o.op = .load ty x := by rfl) (hx : a.eval x = .pointer (some ⟨g, 0, none⟩) := by rfl) (e : bs[i]? = some (g, t, cs) := by first | exact ix0 | exact ix1 | exact ix2 | exact ix3 | exact ix4 | exact ix5 | exact ix6 | exact ix7) (hd : o.dst = some N := by rfl)
 (hw : Region.wanted o (yielded ops a.tmps) = true := by first | exact wanted_plain rfl | (refine wanted_on rfl ?_; first | (simp [yielded]; done) | rfl)) (hu : P.underlying ty = some d := by first | exact Tryd.underlying41 | exact Tryd.underlying100) (hdd : (match d with | .struct _ | .array _ _ => true | _ => false) = true := by rfl) (hi : (P.info? ty).map (·.size) = some cs.size := by kernel_rfl) : wpList P ops Q (o :: rest) a W := by
 have hc : atL W ⟨g, 0, none⟩ 0 cs.toList := atL_blk (by simpa using S.out.at_ i e)
 have hr := run_load_wide (P := P) W ⟨g, 0, none⟩ ty cs.toList d hc hu hdd (by simpa using hi)
 refine ev_run (v := .agg cs) hw ?_ (by rw [hd]; exact h)
 unfold execOp
 simp only [ho, hx, Instr.loadAt, Instr.sureAddr, Sem.run_bind, Sem.run_pure, Result.andThen_ok, hr]
theorem ev_fld (S : Aside0 (St w0 W bs F)) {i : Nat} {N j : Nat} {ty : TypeId} {x : Operand} {v : Value}
 (h : wpList P ops Q rest (a.put (some N) v) W)
 (ho : o.op = .load ty x := by rfl) (hx : a.eval x = .pointer (some ⟨g, j, none⟩) := by rfl) (e : bs[i]? = some (g, t, cs) := by first | exact ix0 | exact ix1 | exact ix2 | exact ix3 | exact ix4 | exact ix5 | exact ix6 | exact ix7) (hd : o.dst = some N := by rfl)
 (hw : Region.wanted o (yielded ops a.tmps) = true := by first | exact wanted_plain rfl | (refine wanted_on rfl ?_; first | (simp [yielded]; done) | rfl))
 (hrun : (∀ k, W.cell? ⟨g, k, none⟩ = cs[k]?) → (execOp a.eval o).run P W = .ok (.value v) W := by intro hc_; first | (go_simp; done) | (go_simp; rfl)) : wpList P ops Q (o :: rest) a W :=
 have _ := ho; have _ := hx
 ev_run hw (hrun (blk_cell (S.out.at_ i e))) (by rw [hd]; exact h)
theorem ev_store (S : Aside0 (St w0 W bs F)) {i : Nat} {p : Tmp} {v : Operand} {c' : Array Value}
 (h : ∀ w', Aside0 (St w0 w' (bs.set i (g, t, c')) F) → wpList P ops Q rest a w')
 (ho : o.op = .store t (.tmp p) v := by rfl) (hp : a.eval (.tmp p) = .pointer (some ⟨g, 0, none⟩) := by rfl) (e : bs[i]? = some (g, t, cs) := by first | exact ix0 | exact ix1 | exact ix2 | exact ix3 | exact ix4 | exact ix5 | exact ix6 | exact ix7) (hv : a.eval v = .agg c' := by rfl) (hN : o.dst = none := by rfl)
 (hw : Region.wanted o (yielded ops a.tmps) = true := by first | exact wanted_plain rfl | (refine wanted_on rfl ?_; first | (simp [yielded]; done) | rfl)) (hs : cs.size = c'.size := by rfl) (hi : (P.info? t).map (·.size) = some c'.size := by kernel_rfl) (h1 : c'.toList.all (·.oneCell') = true := by rfl) : wpList P ops Q (o :: rest) a W := by
 have hb := S.out.at_ i e
 have hrun : (execOp a.eval o).run P W = .ok .skip (W.setCells g 0 c'.toList) := by
  unfold execOp
  simp only [ho, hp, hv, Sem.run_bind, Sem.run_pure, Result.andThen_ok, run_storeAt_mid W g 0 t c' (fun j hj => ⟨by rw [blk_cell hb]; simp; omega, blk_frozen hb _⟩) hi (by rw [← Array.all_toList]; exact h1)]
 refine ev_skip hw hN hrun (h _ ⟨S.out.put i e (below_setCells _ _ _ S.out.below (S.out.ge i e)) ?_ (fun k hk => setCells_far _ _ _ k hk)⟩)
 have := blk_setCells (g := g) (t := t) c'.toList [] cs.toList W (by simpa using hb) (by simpa using hs)
 simpa using this
theorem ev_set (S : Aside0 (St w0 W bs F)) {i : Nat} {j : Nat} {ty : TypeId} {p : Tmp} {v : Operand} {u : Value}
 (h : ∀ w', Aside0 (St w0 w' (bs.set i (g, t, cs.setIfInBounds j u)) F) → wpList P ops Q rest a w')
 (ho : o.op = .store ty (.tmp p) v := by rfl) (hp : a.eval (.tmp p) = .pointer (some ⟨g, j, none⟩) := by rfl) (e : bs[i]? = some (g, t, cs) := by first | exact ix0 | exact ix1 | exact ix2 | exact ix3 | exact ix4 | exact ix5 | exact ix6 | exact ix7) (hN : o.dst = none := by rfl)
 (hw : Region.wanted o (yielded ops a.tmps) = true := by first | exact wanted_plain rfl | (refine wanted_on rfl ?_; first | (simp [yielded]; done) | rfl))
 (hrun : (∀ k, W.cell? ⟨g, k, none⟩ = cs[k]?) → (∀ k, W.frozen? ⟨g, k, none⟩ = false) → (execOp a.eval o).run P W = .ok .skip (W.setCell ⟨g, j, none⟩ u) := by intro hc_ hf_; first | (go_simp; done) | (go_simp; rfl)) : wpList P ops Q (o :: rest) a W := by
 have hb := S.out.at_ i e
 have _ := ho; have _ := hp
 refine ev_skip hw hN (hrun (blk_cell hb) (blk_frozen hb)) (h _ ⟨S.out.put i e (below_setCell0 S.out.below (S.out.ge i e) _ _) (blk_put hb j u rfl) (fun k hk => Below.heap_setCell W ⟨g, j, none⟩ u k hk)⟩)
end
theorem foot_C {α : Type} {d : Kd α} (hd : Kd.Heap d) {w : World} {A : Option Addr} {n : Nat} {xs : List α} (h : d.C w A n xs) : Foot (fun W => d.C W A n xs) w (fun _ => True) := fun _ hW => hd.C (fun k hk => hW k trivial hk) h
theorem foot_R {α : Type} {d : Kd α} {e : Nat} {w : World} {base : Nat} {v : Value} {xs : List α} (h : d.R e w base (fun _ => True) v xs) : Foot (fun W => d.R e W base (fun _ => True) v xs) w (fun k => base ≤ k) := fun _ hW =>
 Kd.R_mono (Kd.R_move (Kd.R_bound h) (fun k hk => hW k hk.2.1 hk.2.2.1)) (fun _ _ => trivial)
theorem St.addR {α : Type} {d : Kd α} {e : Nat} {w0 w w' : World} {bs : List Bx} {F : World → Prop} {v : Value} {xs : List α} (S : St w0 w bs F) (hb : Below w.heap.size w w') (h : d.R e w' w.heap.size (fun _ => True) v xs) : St w0 w' bs (fun W => F W ∧ d.R e W w0.heap.size (fun _ => True) v xs) :=
 S.add hb fun W' hW => Kd.R_lower (foot_R h W' hW) S.below.size
theorem St.keptR {α : Type} {d : Kd α} {e : Nat} {w0 w w' : World} {bs : List Bx} {F : World → Prop} {v : Value} {xs : List α} (S : St w0 w bs F) (hb : Below w0.heap.size w0 w') (hk : Kept w w' (fun k => k ∉ bs.map (·.1) ∧ w0.heap.size ≤ k))
 (h : d.R e w' w0.heap.size (fun k => (k ∉ bs.map (·.1) ∧ w0.heap.size ≤ k) ∨ w.heap.size ≤ k) v xs) : St w0 w' bs (fun W => True ∧ d.R e W w0.heap.size (fun _ => True) v xs) :=
 S.keptE hb (fun k hlt hk' => hk.2 k hlt (fun hq => by
  rcases hk' with h' | h'
  · exact hq.1 h'
  · have := hq.2; omega)) (fun W' hW => ⟨trivial, Kd.R_mono (Kd.R_move (Kd.R_bound h) (fun k hk' => hW k (by
  rcases hk'.1 with h' | h'
  · exact h'.1
  · intro hm
    obtain ⟨b, hb', rfl⟩ := List.mem_map.1 hm
    have := S.lt b hb'
    omega) hk'.2.2.1)) (fun _ _ => trivial)⟩)
theorem St.notBox {α : Type} {d : Kd α} {e : Nat} {w0 w : World} {bs : List Bx} {F : World → Prop} {v : Value} {xs : List α} (S : St w0 w bs F) (h : d.R e w w0.heap.size (fun _ => True) v xs) (hE : ∀ b ∈ bs, b.2.1 ∉ e :: d.E) :
 d.R e w w0.heap.size (fun k => k ∉ bs.map (·.1) ∧ w0.heap.size ≤ k) v xs :=
 Kd.R_mono (Kd.R_bound h) (fun k hk => ⟨fun hm => by
  obtain ⟨b, hb', rfl⟩ := List.mem_map.1 hm
  obtain ⟨q, hq, cells, hc⟩ := hk.2.2.2
  rw [(S.box b hb').1] at hc
  injection hc with hc
  injection hc with _ hc
  exact hE b hb' (hc ▸ hq), hk.2.1⟩)
theorem foot_old {P : World → Prop} {w w' : World} (h : Foot P w (fun _ => True)) (hb : Below w.heap.size w w') : Foot P w' (fun k => k < w.heap.size) := (Foot.old h hb).mono fun _ hk => hk.2
theorem St.addR2 {α β : Type} {d : Kd α} {d' : Kd β} {e e' : Nat} {w0 w w' : World} {bs : List Bx} {F : World → Prop} {v u : Value} {xs : List α} {ys : List β} (S : St w0 w bs F) (hb : Below w.heap.size w w') (h : d.R e w' w.heap.size (fun _ => True) v xs) (h' : d'.R e' w' w.heap.size (fun _ => True) u ys) :
 St w0 w' bs (fun W => (F W ∧ d.R e W w0.heap.size (fun _ => True) v xs) ∧ d'.R e' W w0.heap.size (fun _ => True) u ys) :=
 (S.add (F2 := fun W => d.R e W w0.heap.size (fun _ => True) v xs ∧ d'.R e' W w0.heap.size (fun _ => True) u ys) hb fun W' hW => ⟨Kd.R_lower (foot_R h W' hW) S.below.size, Kd.R_lower (foot_R h' W' hW) S.below.size⟩).weak fun _ h => ⟨⟨h.1, h.2.1⟩, h.2.2⟩
theorem Foot.and {P Q : World → Prop} {W : World} {ok : Nat → Prop} (h1 : Foot P W ok) (h2 : Foot Q W ok) : Foot (fun W => P W ∧ Q W) W ok := fun W' hW => ⟨h1 W' hW, h2 W' hW⟩
end Go.Proofs.YtloccjkcmlkifaaDoor
end

section
/- xform.Caret and the document's Caret answer alike. -/
namespace Go.Proofs.YtloccjkcmlkifaaDoor
open Go.RowKit Go.Proofs.YtloccjkcmlkifaaDoor.PAll Go.Proofs.YtloccjkcmlkifaaDoorW.PrintWords

def ctxWith (who at' n : Int) : List S154 := (if at' > 0 then [⟨0, 0, at'⟩] else []) ++ [⟨who, 0, n⟩, ⟨0, at', 2097152⟩]
theorem with_ctx (k : Nat) (who at' n : Int) (h0 : 0 ≤ at') (h1 : at' ≤ 1048576) : redraftref05_with.f (k + 3) [(⟨0, 0, 2097152⟩ : S154)] who at' n = some (ctxWith who at' n) := by
 unfold redraftref05_with.f
 rw [show k + 3 = (k + 2) + 1 from rfl, redraftref05_with.l0]
 have e0 : rd_T154 [(⟨0, 0, 2097152⟩ : S154)] 0 = ⟨0, 0, 2097152⟩ := rfl
 have w1 : wrap64 (2097152 - 0) = 2097152 := by unfold wrap64; omega
 have w2 : wrap64 (0 + 2097152) = 2097152 := by unfold wrap64; omega
 have w3 : wrap64 (0 + at') = at' := by rw [wrap_id (by omega) (by omega)]; omega
 have w4 : wrap64 (at' - 0) = at' := by rw [wrap_id (by omega) (by omega)]; omega
 have w5 : wrap64 (0 + 1) = 1 := by unfold wrap64; omega
 rw [if_pos (by simp), if_pos (by omega), if_pos (by omega), e0]
 simp only [w1, w2]
 rw [redraftref05_with.j1, if_pos (decide_eq_true (by omega))]
 simp only [w3, w4, w5, w2]
 unfold ctxWith
 by_cases h : at' > 0
 · rw [if_pos h, if_pos h, if_pos (by simp)]
   try simp only [Option.bind_some]
   rw [if_pos (by simp)]
   try simp only [Option.bind_some]
   rw [if_pos (by simp), show k + 1 = k + 1 from rfl, redraftref05_with.l0, if_neg (by simp)]
   rfl
 · obtain rfl : at' = 0 := by omega
   rw [if_neg h, if_neg h, if_pos (by simp)]
   try simp only [Option.bind_some]
   rw [if_pos (by simp), redraftref05_with.l0, if_neg (by simp)]
   rfl

theorem place_step (k : Nat) (row : List S154) (who x seen : Int) (i : Nat) (hi : i < row.length) (hl : row.length ≤ 100) (s : S154) (hs : row.getD i z154 = s) (hb : 0 ≤ seen ∧ seen ≤ 16777216 ∧ 0 ≤ x ∧ x ≤ 16777216 ∧ 0 ≤ s.f1 ∧ s.f1 ≤ 16777216 ∧ 0 ≤ s.f2 ∧ s.f2 ≤ 16777216) :
 redraftref05_place.l0 (k + 1) row who x seen (i : Int) = if s.f0 = who ∧ s.f1 ≤ x ∧ x < s.f2 then some (seen + x - s.f1) else redraftref05_place.l0 k row who x (seen + s.f2 - s.f1) ((i + 1 : Nat) : Int) := by
 have e : rd_T154 row (i : Int) = s := by unfold rd_T154; rw [Int.toNat_natCast, hs]
 have w1 : wrap64 (wrap64 (seen + x) - s.f1) = seen + x - s.f1 := by rw [wrap_id (n := seen + x) (by omega) (by omega), wrap_id (by omega) (by omega)]
 have w2 : wrap64 (wrap64 (seen + s.f2) - s.f1) = seen + s.f2 - s.f1 := by rw [wrap_id (n := seen + s.f2) (by omega) (by omega), wrap_id (by omega) (by omega)]
 have w3 : wrap64 ((i : Int) + 1) = ((i + 1 : Nat) : Int) := by rw [wrap_id (by omega) (by omega)]; omega
 rw [redraftref05_place.l0, if_pos (by omega), if_pos (by omega), e, w1, w2, w3]
 by_cases c1 : s.f0 = who
 · by_cases c2 : s.f1 ≤ x
   · by_cases c3 : x < s.f2
     · rw [if_pos c1, if_pos c2, if_pos c3, if_pos ⟨c1, c2, c3⟩]
     · rw [if_pos c1, if_pos c2, if_neg c3, if_neg (fun h => c3 h.2.2)]
   · rw [if_pos c1, if_neg c2, if_neg (fun h => c2 h.2.1)]
 · rw [if_neg c1, if_neg (fun h => c1 h.1)]

theorem place_ctx (k : Nat) (who at' n x : Int) (hw : who ≠ 0) (h0 : 0 ≤ at') (h1 : at' ≤ 1048576) (hn : 0 ≤ n ∧ n ≤ 1048576) (hx : 0 ≤ x) (hx1 : x ≤ 1048576) :
 redraftref05_place.f (k + 4) (ctxWith who at' n) 0 x = some (if x < at' then x else x + n) := by
 unfold redraftref05_place.f
 rw [show (0 : Int) = ((0 : Nat) : Int) from rfl]
 by_cases h : at' > 0
 · have hc : ctxWith who at' n = [⟨0, 0, at'⟩, ⟨who, 0, n⟩, ⟨0, at', 2097152⟩] := by unfold ctxWith; rw [if_pos h]; rfl
   rw [hc, show k + 4 = (k + 3) + 1 from rfl, place_step (k + 3) _ _ x _ 0 (by simp) (by simp) ⟨0, 0, at'⟩ rfl (by simp; omega)]
   by_cases c : x < at'
   · rw [if_pos ⟨rfl, hx, c⟩, if_pos c]
     congr 1
     show ((0 : Nat) : Int) + x - 0 = x
     omega
   · rw [if_neg (fun h => c h.2.2), if_neg c]
     have e1 : ((0 : Nat) : Int) + at' - 0 = at' := by omega
     simp only [e1]
     rw [show k + 3 = (k + 2) + 1 from rfl, place_step (k + 2) _ _ x _ 1 (by simp) (by simp) ⟨who, 0, n⟩ rfl (by simp; omega), if_neg (fun h => hw h.1)]
     simp only
     rw [show k + 2 = (k + 1) + 1 from rfl, place_step (k + 1) _ _ x _ 2 (by simp) (by simp) ⟨0, at', 2097152⟩ rfl (by simp; omega), if_pos ⟨rfl, by show at' ≤ x; omega, by show x < 2097152; omega⟩]
     congr 1
     show at' + n - 0 + x - at' = x + n
     omega
 · obtain rfl : at' = 0 := by omega
   have hc : ctxWith who 0 n = [⟨who, 0, n⟩, ⟨0, 0, 2097152⟩] := rfl
   rw [hc, show k + 4 = (k + 3) + 1 from rfl, place_step (k + 3) _ _ x _ 0 (by simp) (by simp) ⟨who, 0, n⟩ rfl (by simp; omega), if_neg (fun h => hw h.1), if_neg (by omega)]
   simp only
   rw [show k + 3 = (k + 2) + 1 from rfl, place_step (k + 2) _ _ x _ 1 (by simp) (by simp) ⟨0, 0, 2097152⟩ rfl (by simp; omega), if_pos ⟨rfl, hx, by show x < 2097152; omega⟩]
   congr 1
   show ((0 : Nat) : Int) + n - 0 + x - 0 = x + n
   omega

def wid (o : S41) : Int := if o.f0.f1 = 1 then (chk o.f2).1 else 0
theorem own_ok {o : S41} (h : ownE o = 0) : 1 ≤ o.f0.f1 ∧ o.f0.f1 ≤ 4 ∧ ¬ badID o ∧ extraB o = false ∧
 (o.f0.f1 = 1 → 0 ≤ o.f1 ∧ o.f1 ≤ 1048576 ∧ (chk o.f2).2.2 = 0 ∧ 1 ≤ (chk o.f2).1 ∧ (chk o.f2).1 ≤ 256 ∧ o.f1 + (chk o.f2).1 ≤ 1048576 ∨ (chk o.f2).1 < 0) ∧
 (o.f0.f1 = 2 ∨ o.f0.f1 = 3 → o.f3.length ≠ 0 ∧ (rngE o.f3).2 = 0 ∧ lastHi o.f3 ≤ 1048576) ∧ (o.f0.f1 = 4 → staE o = 0) := by
 unfold ownE checkE at h
 by_cases t : totOf o < 0 ∨ 1048576 < totOf o
 · rw [if_pos t] at h; omega
 rw [if_neg t] at h
 by_cases k : o.f0.f1 < 1 ∨ 4 < o.f0.f1
 · rw [if_pos k] at h; omega
 rw [if_neg k] at h
 by_cases b : badID o
 · rw [if_pos b] at h; omega
 rw [if_neg b] at h
 by_cases e : extraB o = true
 · rw [if_pos e] at h; omega
 rw [if_neg e] at h
 refine ⟨by omega, by omega, b, by simpa using e, fun k1 => ?_, fun k2 => ?_, fun k4 => ?_⟩
 · rw [if_pos k1] at h
   unfold insE at h
   by_cases c1 : (chk o.f2).2.2 = 0
   · rw [if_pos c1] at h
     by_cases c2 : (chk o.f2).1 = 0
     · rw [if_pos c2] at h; omega
     rw [if_neg c2] at h
     by_cases c3 : 256 < (chk o.f2).1
     · rw [if_pos c3] at h; omega
     rw [if_neg c3] at h
     by_cases c4 : o.f1 < 0 ∨ totOf o < o.f1
     · rw [if_pos c4] at h; omega
     rw [if_neg c4] at h
     by_cases c5 : 1048576 < totOf o + (chk o.f2).1
     · rw [if_pos c5] at h; omega
     by_cases c6 : (chk o.f2).1 < 0
     · exact .inr c6
     left
     have : totOf o = o.f1 ∨ totOf o = 1048576 := by unfold totOf; split <;> simp
     rcases this with q | q
     · exact ⟨by omega, by omega, c1, by omega, by omega, by omega⟩
     · omega
   · rw [if_neg c1] at h; omega
 · rw [if_neg (by omega), if_neg (by omega)] at h
   unfold rgsE at h
   by_cases c1 : o.f3.length = 0
   · rw [if_pos c1] at h; omega
   rw [if_neg c1] at h
   by_cases c2 : (rngE o.f3).2 = 0
   · rw [if_pos c2] at h
     by_cases c3 : totOf o < lastHi o.f3
     · rw [if_pos c3] at h; omega
     exact ⟨c1, c2, by omega⟩
   · rw [if_neg c2] at h; omega
 · rw [if_neg (by omega), if_pos k4] at h
   exact h
theorem own_ins {o : S41} (h : ownE o = 0) (hs : o.f2.size ≤ 1048576) (k : o.f0.f1 = 1) : 0 ≤ o.f1 ∧ o.f1 ≤ 1048576 ∧ (chk o.f2).2.2 = 0 ∧ 1 ≤ (chk o.f2).1 ∧ (chk o.f2).1 ≤ 256 ∧ o.f1 + (chk o.f2).1 ≤ 1048576 := by
 have hb := chk_bound o.f2 hs
 rcases (own_ok h).2.2.2.2.1 k with q | q
 · exact q
 · omega

theorem width_is (o : S41) : op_Width.f o.f0.f0.f0 o.f0.f0.f1 o.f0.f1 o.f1 o.f2 o.f3 o.f4.f0 o.f4.f1 o.f5 = some (wid o) := by
 unfold op_Width.f wid
 by_cases h : o.f0.f1 = 1
 · rw [if_pos h, if_pos h, chk_f]; rfl
 · rw [if_neg h, if_neg h]
theorem rwidth_is (o : S41) (hs : o.f2.size ≤ 1048576) (h : ownE o = 0) : Ev (fun k => redraftref04_Width.f k o.f0.f0.f0 o.f0.f0.f1 o.f0.f1 o.f1 o.f2 o.f3 o.f4.f0 o.f4.f1 o.f5) (wid o) := by
 obtain ⟨K, hK⟩ := ref_chk o.f2 hs
 dsimp only at hK
 refine ⟨K, fun k hk => ?_⟩
 simp only [redraftref04_Width.f, wid]
 by_cases c : o.f0.f1 = 1
 · rw [if_pos c, if_pos c, hK k hk]
   simp only [Option.bind_some]
   rw [if_pos (own_ins h hs c).2.2.1]
 · rw [if_neg c, if_neg c]
end Go.Proofs.YtloccjkcmlkifaaDoor
end

section
/- Operations as values: what a call hands back of an operation; the small functions of xform, told of whole operations. -/
namespace Go.Proofs.YtloccjkcmlkifaaDoor
open Go.RowKit Go.Proofs.YtloccjkcmlkifaaDoor.PAll Go.Proofs.YtloccjkcmlkifaaDoorW.PrintWords

abbrev opA (o : S41) (v : Value) : Array Value := #[.int .i64 o.f0.f0.f0, .int .i64 o.f0.f0.f1, .int .i64 o.f0.f1, .int .i64 o.f1, .string o.f2, v, .int .i64 o.f4.f0, .int .i64 o.f4.f1, .bool o.f5]
abbrev zA : Array Value := #[.int .i64 0, .int .i64 0, .int .i64 0, .int .i64 0, .string ⟨#[]⟩, .slice none 0 0, .int .i64 0, .int .i64 0, .bool false]
def OpC (w : World) (v : Value) (o : S41) : Prop := ∃ A c, v = .slice A o.f3.length c ∧ o.f3.length ≤ c ∧ k94.C w A o.f3.length o.f3
theorem OpC.below {w w' : World} {v : Value} {o : S41} (h : OpC w v o) (hb : Below w.heap.size w w') : OpC w' v o := by
 obtain ⟨A, c, e, h1, h2⟩ := h
 exact ⟨A, c, e, h1, Kd.C_below h2 hb⟩
theorem opC_mk {w : World} {o : S41} {A : Option Addr} {c : Nat} (h1 : o.f3.length ≤ c) (h2 : k94.C w A o.f3.length o.f3) : OpC w (.slice A o.f3.length c) o := ⟨A, c, rfl, h1, h2⟩
def OpR (w : World) (base : Nat) (v : Value) (o : S41) : Prop := Kd.R k94 94 w base (fun _ => True) v o.f3
theorem OpR.C {w : World} {base : Nat} {v : Value} {o : S41} (h : OpR w base v o) : OpC w v o := Kd.R_reads h
theorem OpR.slice {w : World} {base : Nat} {v : Value} {o : S41} (h : OpR w base v o) : ∃ A c, v = .slice A o.f3.length c := Kd.R_slice h
def IsOp (w : World) (r : S41) : Ending → World → Prop := fun e w' => ∃ v, e = .returned (.agg (opA r v)) ∧ OpR w' w.heap.size v r ∧ Below w.heap.size w w'
def RetOp (w : World) (r : S41 × Int) : Ending → World → Prop := fun e w' => ∃ v, e = .returned (.tuple #[.agg (opA r.1 v), .int .i64 r.2]) ∧ OpR w' w.heap.size v r.1 ∧ Below w.heap.size w w'
def RetOp2 (w : World) (r : S41 × S41 × Int) : Ending → World → Prop := fun e w' => ∃ v u, e = .returned (.tuple #[.agg (opA r.1 v), .agg (opA r.2.1 u), .int .i64 r.2.2]) ∧ OpR w' w.heap.size v r.1 ∧ OpR w' w.heap.size u r.2.1 ∧ Below w.heap.size w w'
theorem St.addOp {w0 w w' : World} {bs : List Bx} {F : World → Prop} {v : Value} {o : S41} (S : St w0 w bs F) (hb : Below w.heap.size w w') (h : OpR w' w.heap.size v o) : St w0 w' bs (fun W => F W ∧ OpR W w0.heap.size v o) := S.addR hb h
theorem opR_nil (w : World) (base : Nat) : OpR w base (.slice none 0 0) z41 := Kd.R_nil _ _ _ _ _

def clashB (a b : S41) : Bool := decide (a.f0.f0.f0 = b.f0.f0.f0 ∧ a.f0.f0.f1 = b.f0.f0.f1 ∧ (a.f0.f0.f0 ≠ 0 ∨ a.f0.f0.f1 ≠ 0))
theorem clash_f (a b : S41) : xform_clash.f a.f0.f0.f0 a.f0.f0.f1 a.f0.f1 a.f1 a.f2 a.f3 a.f4.f0 a.f4.f1 a.f5 b.f0.f0.f0 b.f0.f0.f1 b.f0.f1 b.f1 b.f2 b.f3 b.f4.f0 b.f4.f1 b.f5 = some (clashB a b) := by
 unfold xform_clash.f clashB
 generalize a.f0.f0.f0 = x, a.f0.f0.f1 = y, b.f0.f0.f0 = u, b.f0.f0.f1 = v
 by_cases h1 : x = u
 · subst h1
   by_cases h2 : y = v
   · subst h2
     by_cases h3 : x = 0 <;> by_cases h4 : y = 0 <;> simp [h3, h4]
   · rw [if_neg (by simp [h2])]; simp [h2]
 · rw [if_neg (by simp [h1])]; simp [h1]
theorem clash_any (a b : S41) (va vb : Value) (w : World) (r : Bool) (ha : OpC w va a) (hb : OpC w vb b) (hr : clashB a b = r) :
 Calls Tryd.prog 71 #[.agg (opA a va), .agg (opA b vb)] w fun e w' => e = .returned (.bool r) ∧ Below w.heap.size w w' := by
 obtain ⟨A, c, rfl, h1, h2⟩ := ha
 obtain ⟨B, d, rfl, h3, h4⟩ := hb
 exact xform_clash.calls _ _ _ _ _ A c a.f3 _ _ _ _ _ _ _ _ B d b.f3 _ _ _ r w h2 h1 h4 h3 (by rw [clash_f, hr])
theorem clone_f (a : S41) (h : a.f3.length ≤ 1048576) : op_Clone.f a.f0.f0.f0 a.f0.f0.f1 a.f0.f1 a.f1 a.f2 a.f3 a.f4.f0 a.f4.f1 a.f5 = some (a.f0.f0.f0, a.f0.f0.f1, a.f0.f1, a.f1, a.f2, a.f3, a.f4.f0, a.f4.f1, a.f5) := by
 unfold op_Clone.f
 rw [if_pos (by simp; omega)]
 rfl
theorem clone_any (a : S41) (va : Value) (w : World) (ha : OpC w va a) (hl : a.f3.length ≤ 1048576) : Calls Tryd.prog 64 #[.agg (opA a va)] w (IsOp w a) := by
 obtain ⟨A, c, rfl, h1, h2⟩ := ha
 exact (op_Clone.calls _ _ _ _ _ A c a.f3 _ _ _ _ _ _ _ _ _ _ _ _ w h2 h1 (clone_f a hl)).mono fun e w' ⟨v, he, hr, hb⟩ => ⟨v, he, hr, hb⟩
theorem width_any (a : S41) (va : Value) (w : World) (hG : GW w) (ha : OpC w va a) : Calls Tryd.prog 53 #[.agg (opA a va)] w fun e w' => e = .returned (.int .i64 (wid a)) ∧ Below w.heap.size w w' := by
 obtain ⟨A, c, rfl, h1, h2⟩ := ha
 exact op_Width.calls _ _ _ _ _ A c a.f3 _ _ _ _ w h2 h1 hG (width_is a)

def moveE (a : S41) (p : Int) : S41 × Int := if 1048576 < p + wid a then (z41, 24) else (⟨a.f0, p, a.f2, [], a.f4, a.f5⟩, 0)
theorem moved_any (a : S41) (va : Value) (p : Int) (w : World) (hG : GW w) (ha : OpC w va a) (hp : -4611686018427387904 ≤ p ∧ p ≤ 4611686018427387904) (hw : -4611686018427387904 ≤ wid a ∧ wid a ≤ 4611686018427387000) :
 Calls Tryd.prog 72 #[.agg (opA a va), .int .i64 p] w (RetOp w (moveE a p)) := by
 obtain ⟨A, c, rfl, h1, h2⟩ := ha
 have S := Aside0.mk (St.init w (F := fun _ => True) (fun _ _ => trivial))
 have HA := Aside0.mk (opC_mk h1 h2); have HG := Aside0.mk hG
 have hq : IntKind.i64.wrap (p + wid a) = p + wid a := IntWalk.i64_in _ (by omega)
 unfold moveE
 clear h1 h2 hG hp hw
 by_cases h : 1048576 < p + wid a
 · rw [if_pos h]
   have h' := decide_eq_true h
   clear h
   go_enter Tryd.func72, Tryd.ntmps72
   go_wp2_with (first | ((with_reducible refine gate_box rfl ?_); refine ev_box S ?_; clear S; intro _ _ S) | ((with_reducible refine gate_new rfl ?_); refine ev_new S 41 zA ?_; clear S; intro _ _ S) | ((with_reducible refine gate_load rfl ?_); first | refine ev_load S ?_ | refine ev_fld S ?_) | ((with_reducible refine gate_st rfl ?_); refine ev_store S ?_; clear S; intro _ S) | (go_at_call 53; (with_reducible refine (width_any a _ _ (GW.below HG.out S.out.below) (HA.out.below S.out.below)).mono ?_); rintro e_ w7 ⟨rfl, hb⟩; replace S := Aside0.mk (S.out.step hb); clear hb))
   exact bodyPost_ret (results_ct rfl _ _ _ 41 _ (0, 0) _ rfl (S.out.at_ 0 rfl) Tryd.underlying41 rfl (by kernel_rfl)) rfl ⟨.slice none 0 0, rfl, opR_nil _ _, S.out.below⟩
 · rw [if_neg h]
   have h' := decide_eq_false h
   clear h
   go_enter Tryd.func72, Tryd.ntmps72
   go_wp2_with (first | ((with_reducible refine gate_box rfl ?_); refine ev_box S ?_; clear S; intro _ _ S) | ((with_reducible refine gate_new rfl ?_); refine ev_new S 41 zA ?_; clear S; intro _ _ S) | ((with_reducible refine gate_load rfl ?_); first | refine ev_load S ?_ | refine ev_fld S ?_) | ((with_reducible refine gate_st rfl ?_); refine ev_store S ?_; clear S; intro _ S) | ((with_reducible refine gate_st rfl ?_); refine ev_set S ?_; clear S; intro _ S) | (go_at_call 53; (with_reducible refine (width_any a _ _ (GW.below HG.out S.out.below) (HA.out.below S.out.below)).mono ?_); rintro e_ w7 ⟨rfl, hb⟩; replace S := Aside0.mk (S.out.step hb); clear hb))
   exact bodyPost_ret (results_ct rfl _ _ _ 41 _ (0, 0) _ rfl (S.out.at_ 0 rfl) Tryd.underlying41 rfl (by kernel_rfl)) rfl ⟨.slice none 0 0, rfl, opR_nil _ _, S.out.below⟩
def rangedE (a : S41) (r : List S94 × Int) : S41 × Int := if r.2 = 0 then (⟨a.f0, a.f1, a.f2, r.1, a.f4, a.f5⟩, 0) else (z41, r.2)
theorem OpC.foot {w : World} {v : Value} {o : S41} (h : OpC w v o) : Foot (fun W => OpC W v o) w (fun _ => True) := by
 obtain ⟨A, c, e, h1, h2⟩ := h
 exact fun W' hW => ⟨A, c, e, h1, foot_C k94_heap h2 W' hW⟩
theorem results_cct {P : Program} {fn : Func} {p p' u : Tmp} {ty ty' : TypeId} (h : fn.results = #[.cell p ty, .cell p' ty', .tmp u]) (tmps : Array Value) (w : World) (g g' : Nat) (t t' : TypeId) (cs cs' : Array Value) (fr fr' : Nat × Nat) (d d' : TypeDesc)
 (hp : tmps.getD p undef = .pointer (some ⟨g, 0, none⟩)) (hg : w.heap[g]? = some (.cells cs t fr)) (hu : P.underlying ty = some d) (hd : (match d with | .struct _ | .array _ _ => true | _ => false) = true) (hi : (P.info? ty).map (·.size) = some cs.size)
 (hp2 : tmps.getD p' undef = .pointer (some ⟨g', 0, none⟩)) (hg2 : w.heap[g']? = some (.cells cs' t' fr')) (hu2 : P.underlying ty' = some d') (hd2 : (match d' with | .struct _ | .array _ _ => true | _ => false) = true) (hi2 : (P.info? ty').map (·.size) = some cs'.size) :
 (results fn tmps).run P w = .ok (.tuple #[.agg cs, .agg cs', tmps.getD u undef]) w := by
 have hq : tmps[p]?.getD undef = .pointer (some ⟨g, 0, none⟩) := by simpa using hp
 have hq2 : tmps[p']?.getD undef = .pointer (some ⟨g', 0, none⟩) := by simpa using hp2
 simp [results, h, hq, hq2, asAddr, run_loadVar_row w g t ty cs fr d hg hu hd hi, run_loadVar_row w g' t' ty' cs' fr' d' hg2 hu2 hd2 hi2]
structure Fit (o : S41) : Prop where
 len : o.f3.length ≤ 1048576
 at_ : 0 ≤ o.f1 ∧ o.f1 ≤ 1048576
 wid : 0 ≤ wid o ∧ wid o ≤ 1048576
theorem k94_E : k94.E = [] := rfl
theorem St.withR {α : Type} {d : Kd α} {e : Nat} {w0 w : World} {bs : List Bx} {F : World → Prop} {v : Value} {xs : List α} (S : St w0 w bs F) (hu : d.R e w w0.heap.size (fun k => k ∉ bs.map (·.1) ∧ w0.heap.size ≤ k) v xs) : St w0 w bs (fun W => F W ∧ d.R e W w0.heap.size (fun _ => True) v xs) :=
 ⟨S.below, S.box, S.nd, Foot.and S.foot fun _ hW => Kd.R_mono (Kd.R_move (Kd.R_bound hu) (fun k hk => hW k hk.1.1 hk.2.2.1)) (fun _ _ => trivial)⟩
theorem ranged_any (a : S41) (va : Value) (r : List S94 × Int) (u : Value) (w0 w : World) (bs : List Bx) (F : World → Prop) (S : St w0 w bs F) (hbs : ∀ b ∈ bs, b.2.1 ∉ (94 : Nat) :: k94.E) (ha : OpC w0 va a) (hu : Kd.R k94 94 w w0.heap.size (fun _ => True) u r.1) :
 Calls Tryd.prog 74 #[.agg (opA a va), u, .int .i64 r.2] w fun e w' => ∃ v, e = .returned (.tuple #[.agg (opA (rangedE a r).1 v), .int .i64 (rangedE a r).2]) ∧ (∃ A c, v = .slice A (rangedE a r).1.f3.length c) ∧ St w0 w' bs (fun W => True ∧ OpR W w0.heap.size v (rangedE a r).1) := by
 obtain ⟨A, c, rfl, h1, h2⟩ := ha
 obtain ⟨B, d, rfl⟩ := Kd.R_slice hu
 replace S := Aside0.mk (S.withR (S.notBox hu hbs))
 unfold rangedE
 clear h1 h2 hu
 by_cases h : r.2 = 0
 · rw [if_pos h, h]
   clear h
   go_enter Tryd.func74, Tryd.ntmps74
   go_wp2_with (first | ((with_reducible refine gate_box rfl ?_); refine ev_box S ?_; clear S; intro _ _ S) | ((with_reducible refine gate_new rfl ?_); refine ev_new S 41 zA ?_; clear S; intro _ _ S) | ((with_reducible refine gate_load rfl ?_); first | refine ev_load S ?_ | refine ev_fld S ?_) | ((with_reducible refine gate_st rfl ?_); refine ev_store S ?_; clear S; intro _ S) | ((with_reducible refine gate_st rfl ?_); refine ev_set S ?_; clear S; intro _ S))
   exact bodyPost_ret (results_ct rfl _ _ _ 41 _ (0, 0) _ rfl (S.out.at_ 0 rfl) Tryd.underlying41 rfl (by kernel_rfl)) rfl ⟨_, rfl, ⟨_, _, rfl⟩, (S.out.drop (List.drop_sublist 2 _)).weak fun _ h => ⟨trivial, h.2⟩⟩
 · rw [if_neg h]
   have h' : (r.2 != 0) = true := bne_iff_ne.mpr h
   clear h
   go_enter Tryd.func74, Tryd.ntmps74
   go_wp2_with (first | ((with_reducible refine gate_box rfl ?_); refine ev_box S ?_; clear S; intro _ _ S) | ((with_reducible refine gate_new rfl ?_); refine ev_new S 41 zA ?_; clear S; intro _ _ S) | ((with_reducible refine gate_st rfl ?_); refine ev_store S ?_; clear S; intro _ S))
   exact bodyPost_ret (results_ct rfl _ _ _ 41 _ (0, 0) _ rfl (S.out.at_ 0 rfl) Tryd.underlying41 rfl (by kernel_rfl)) rfl ⟨.slice none 0 0, rfl, ⟨none, 0, rfl⟩, (S.out.drop (List.drop_sublist 2 _)).weak fun _ _ => ⟨trivial, opR_nil _ _⟩⟩
end Go.Proofs.YtloccjkcmlkifaaDoor
end

section
/- A region that draws its order, walked over the state of a walk: what is pure or read from boxes is taken first. -/
namespace Go.Proofs.YtloccjkcmlkifaaDoor
open Go.RowKit Go.Proofs.YtloccjkcmlkifaaDoorW.PrintWords Go.Proofs.YtloccjkcmlkifaaDoorW.PrintLast

section
variable {P : Program} {ops : Array Oper} {Q : Exit → Act → World → Prop} {md : Region.Mode} {S : World → Prop} {ds : List Nat} {fuel : Nat} {l : Array Bool} {a a' : Act} {w w0 : World} {oi : Oper} {N : Tmp} {v : Value} {bs : List Bx} {F : World → Prop}
theorem rg_start {id n : Nat} (S : World → Prop) (ds : List Nat) (hS : S w) (hd : ∀ w, S w → S w.drew) (h : ∀ w', S w' → wpAnyLast P .any ops Q S ds n (Array.replicate n false) a w') (hm : P.follows .mixedOrders = true := by kernel_rfl) (hn : ops.size = n := by rfl) : (Code.region id ops true).wp P Q a w :=
 start_ (Array.replicate n false) hm hn rfl (hd _ hS) (h _)
theorem pu_ (i : Nat) (h : wpAnyLast P md ops Q S ds fuel (l.setIfInBounds i true) a' w)
 (hi : ops[i]? = some oi := by rfl) (hN : oi.dst = some N := by rfl) (hc : anyB md ops l (l.setIfInBounds i true) i = true := by kernel_rfl)
 (hw : Region.wanted oi (yielded ops a.tmps) = true := by first | exact wanted_plain rfl | (refine wanted_on rfl ?_; simp [yielded]))
 (hy : ∀ w', (execOp a.eval oi).run P w' = .ok (.value v) w' := by intro w'; go_simp; (try with_reducible rfl))
 (ha : a.put (some N) v = a' := by (simp only [Act.put, List.setIfInBounds_toArray, List.set_cons_zero, List.set_cons_succ]; rfl))
 (hQ : ∀ c a w, Q (.panic c) (a.put oi.dst v) w → Q (.panic c) a w := by exact fun _ _ _ h => h) : wpAnyLast P md ops Q S ds (fuel + 1) l a w :=
 pure_ (l.setIfInBounds i true) hi hN hc hQ (.inl ⟨hw, hy⟩) ha h
theorem ld_ (i k : Nat) {ty : TypeId} {x : Operand} {d : TypeDesc} {g : Nat} {t : TypeId} {cs : Array Value} (hS : S w)
 (h : wpAnyLast P md ops Q S ds fuel (l.setIfInBounds i true) a' w) (hSt : ∀ w, S w → St w0 w bs F := by exact fun _ h => h)
 (hi : ops[i]? = some oi := by rfl) (hN : oi.dst = some N := by rfl) (hc : takeB md ops ds l (l.setIfInBounds i true) i = true := by kernel_rfl)
 (ho : oi.op = .load ty x := by rfl) (hx : a.eval x = .pointer (some ⟨g, 0, none⟩) := by rfl) (e : bs[k]? = some (g, t, cs) := by rfl)
 (hw : Region.wanted oi (yielded ops a.tmps) = true := by first | exact wanted_plain rfl | (refine wanted_on rfl ?_; simp [yielded]))
 (hu : P.underlying ty = some d := by first | exact Tryd.underlying41 | exact Tryd.underlying100) (hdd : (match d with | .struct _ | .array _ _ => true | _ => false) = true := by rfl) (hs : (P.info? ty).map (·.size) = some cs.size := by kernel_rfl)
 (ha : a.put (some N) (.agg cs) = a' := by (simp only [Act.put, List.setIfInBounds_toArray, List.set_cons_zero, List.set_cons_succ]; rfl))
 (hQ : ∀ c a w, Q (.panic c) (a.put oi.dst (.agg cs)) w → Q (.panic c) a w := by exact fun _ _ _ h => h) : wpAnyLast P md ops Q S ds (fuel + 1) l a w :=
 take_ (l.setIfInBounds i true) hi hN hc hQ (.inl ⟨hw, fun w' hS' => by
  have hcc : atL w' ⟨g, 0, none⟩ 0 cs.toList := atL_blk (by simpa using (hSt w' hS').at_ k e)
  have hr := run_load_wide (P := P) w' ⟨g, 0, none⟩ ty cs.toList d hcc hu hdd (by simpa using hs)
  unfold execOp
  simp only [ho, hx, Instr.loadAt, Instr.sureAddr, Sem.run_bind, Sem.run_pure, Result.andThen_ok, hr]⟩) hS ha h
theorem fl_ (i k : Nat) {j : Nat} {ty : TypeId} {x : Operand} {g : Nat} {t : TypeId} {cs : Array Value} (hS : S w)
 (h : wpAnyLast P md ops Q S ds fuel (l.setIfInBounds i true) a' w) (hSt : ∀ w, S w → St w0 w bs F := by exact fun _ h => h)
 (hi : ops[i]? = some oi := by rfl) (hN : oi.dst = some N := by rfl) (hc : takeB md ops ds l (l.setIfInBounds i true) i = true := by kernel_rfl)
 (ho : oi.op = .load ty x := by rfl) (hx : a.eval x = .pointer (some ⟨g, j, none⟩) := by rfl) (e : bs[k]? = some (g, t, cs) := by rfl)
 (hw : Region.wanted oi (yielded ops a.tmps) = true := by first | exact wanted_plain rfl | (refine wanted_on rfl ?_; simp [yielded]))
 (hy : ∀ w', (∀ k, w'.cell? ⟨g, k, none⟩ = cs[k]?) → (execOp a.eval oi).run P w' = .ok (.value v) w' := by intro w' hc_; go_simp; (try with_reducible rfl))
 (ha : a.put (some N) v = a' := by (simp only [Act.put, List.setIfInBounds_toArray, List.set_cons_zero, List.set_cons_succ]; rfl))
 (hQ : ∀ c a w, Q (.panic c) (a.put oi.dst v) w → Q (.panic c) a w := by exact fun _ _ _ h => h) : wpAnyLast P md ops Q S ds (fuel + 1) l a w :=
 have _ := ho; have _ := hx
 take_ (l.setIfInBounds i true) hi hN hc hQ (.inl ⟨hw, fun w' hS' => hy w' (blk_cell ((hSt w' hS').at_ k e))⟩) hS ha h
theorem cl_ (i : Nat) {f : FuncId} {fn : Func} {xs : Array Operand} {ts : Array TypeId} (args : Array Value)
 (h : Calls P f args w fun e w' => ∃ v, e = .returned v ∧ S w' ∧ (S w' → wpAnyLast P md ops Q S ds fuel (l.setIfInBounds i true) (a.put (some N) v) w'))
 (hf : P.funcs[f]? = some fn)
 (hi : ops[i]? = some oi := by rfl) (hN : oi.dst = some N := by rfl) (hc : readyB md ops l (l.setIfInBounds i true) i = true := by kernel_rfl) (hd : i ∉ ds := by decide)
 (hop : oi.op = .call { callee := .value (.func f), args := xs, argTypes := ts } := by rfl) (hargs : xs.map a.eval = args := by ((try simp only [List.map_toArray, List.map_cons, List.map_nil]); first | done | rfl))
 (hw : Region.wanted oi (yielded ops a.tmps) = true := by first | exact wanted_plain rfl | (refine wanted_on rfl ?_; simp [yielded]))
 (hname : (fn.name == "runtime.NumGoroutine") = false := by kernel_rfl) (hb : fn.body.isSome = true := by rfl) : wpAnyLast P md ops Q S ds (fuel + 1) l a w :=
 one_ (l.setIfInBounds i true) hi hN hc hd fun _ hK => goes_ hf hname hb args hw hN hop hargs (h.mono fun _ _ ⟨v, he, hs, hh⟩ => ⟨v, he, hK.out _ _ hs hh⟩)
theorem nr_ (h : wpAnyLast P md ops Q S ds fuel l a' w) (ha : a = a' := by (simp only [Act.put, List.setIfInBounds_toArray, List.set_cons_zero, List.set_cons_succ]; rfl)) : wpAnyLast P md ops Q S ds fuel l a w := norm_ ha h
theorem kc_ {f : FuncId} {fn : Func} {xs : Array Operand} {ts : Array TypeId} {K : Act → World → Prop} (args : Array Value) (h : Calls P f args w fun e w' => ∃ v, e = .returned v ∧ K (a.put (some N) v) w')
 (hf : P.funcs[f]? = some fn) (hN : oi.dst = some N := by rfl)
 (hop : oi.op = .call { callee := .value (.func f), args := xs, argTypes := ts } := by rfl) (hargs : xs.map a.eval = args := by ((try simp only [List.map_toArray, List.map_cons, List.map_nil]); first | done | rfl))
 (hw : Region.wanted oi (yielded ops a.tmps) = true := by first | exact wanted_plain rfl | (refine wanted_on rfl ?_; simp [yielded]))
 (hname : (fn.name == "runtime.NumGoroutine") = false := by kernel_rfl) (hb : fn.body.isSome = true := by rfl) : if Region.wanted oi (yielded ops a.tmps) = true then Oper.wp P oi a w K Q else K (a.put oi.dst undef) w := by
 rw [hN]
 exact goes_ hf hname hb args hw hN hop hargs h
theorem kn_ (t : TypeId) (cs : Array Value) {K : Act → World → Prop} (hSt : St w0 w bs F) (h : ∀ g w', St w0 w' ((g, t, cs) :: bs) F → K (a.put (some N) (.pointer (some ⟨g, 0, none⟩))) w')
 (ho : oi.op = .alloc t := by rfl) (hN : oi.dst = some N := by rfl)
 (hw : Region.wanted oi (yielded ops a.tmps) = true := by first | exact wanted_plain rfl | (refine wanted_on rfl ?_; simp [yielded]))
 (hrun : (execOp a.eval oi).run P w = .ok (.value (.pointer (some ⟨w.heap.size, 0, none⟩))) (w.alloc (.cells cs t (0, 0))) := by first | (go_simp; done) | (go_simp; rfl)) :
 if Region.wanted oi (yielded ops a.tmps) = true then Oper.wp P oi a w K Q else K (a.put oi.dst undef) w := by
 have _ := ho
 rw [if_pos hw]
 unfold Oper.wp
 rw [hrun]
 show K (a.put oi.dst _) _
 rw [hN]
 exact h _ _ (hSt.push (below_alloc (Below.refl _ _) _) (blk_new w _) rfl)
theorem ks_ (k : Nat) {p : Tmp} {vo : Operand} {c' : Array Value} {g : Nat} {t : TypeId} {cs : Array Value} {K : Act → World → Prop} (hSt : St w0 w bs F) (h : ∀ w', St w0 w' (bs.set k (g, t, c')) F → K a w')
 (ho : oi.op = .store t (.tmp p) vo := by rfl) (hN : oi.dst = none := by rfl) (hp : a.eval (.tmp p) = .pointer (some ⟨g, 0, none⟩) := by rfl) (e : bs[k]? = some (g, t, cs) := by rfl) (hv : a.eval vo = .agg c' := by rfl)
 (hw : Region.wanted oi (yielded ops a.tmps) = true := by first | exact wanted_plain rfl | (refine wanted_on rfl ?_; simp [yielded]))
 (hs : cs.size = c'.size := by rfl) (hii : (P.info? t).map (·.size) = some c'.size := by kernel_rfl) (h1 : c'.toList.all (·.oneCell') = true := by rfl) :
 if Region.wanted oi (yielded ops a.tmps) = true then Oper.wp P oi a w K Q else K (a.put oi.dst undef) w := by
 have hb := hSt.at_ k e
 have hrun : (execOp a.eval oi).run P w = .ok .skip (w.setCells g 0 c'.toList) := by
  unfold execOp
  simp only [ho, hp, hv, Sem.run_bind, Sem.run_pure, Result.andThen_ok, run_storeAt_mid w g 0 t c' (fun j hj => ⟨by rw [blk_cell hb]; simp; omega, blk_frozen hb _⟩) hii (by rw [← Array.all_toList]; exact h1)]
 rw [if_pos hw]
 unfold Oper.wp
 rw [hrun]
 show K (a.put oi.dst undef) _
 rw [hN]
 refine h _ (hSt.put k e (below_setCells _ _ _ hSt.below (hSt.ge k e)) ?_ (fun k hk => setCells_far _ _ _ k hk))
 have := blk_setCells (g := g) (t := t) c'.toList [] cs.toList w (by simpa using hb) (by simpa using hs)
 simpa using this
theorem rc_ (i : Nat) {rs : List Nat} (h : ∀ K' : Act → World → Prop, Shut (∀ a w, S w → (S w → wpAnyLast P md ops Q S ds fuel (l.setIfInBounds i true) a w) → K' a w) → if Region.wanted oi (yielded ops a.tmps) = true then Oper.wp P oi a w K' Q else K' (a.put oi.dst undef) w)
 (hs : AllReadyL P md ops Q S ds fuel l a w rs) (ho : ops[i]? = some oi := by rfl) (hd : i ∉ ds := by decide) : AllReadyL P md ops Q S ds fuel l a w (i :: rs) := AllReadyL.cons ho hd h hs
theorem rl_ (i : Nat) {rs : List Nat} (h : ∀ K' : Act → World → Prop, Shut (∀ a w, wpAnyLast P md ops Q S ds fuel (l.setIfInBounds i true) a w → K' a w) → if Region.wanted oi (yielded ops a.tmps) = true then Oper.wp P oi a w K' Q else K' (a.put oi.dst undef) w)
 (hs : AllReadyL P md ops Q S ds fuel l a w rs) (ho : ops[i]? = some oi := by rfl) (hd : i ∈ ds := by decide) : AllReadyL P md ops Q S ds fuel l a w (i :: rs) := AllReadyL.cons_last ho hd h hs
theorem re_ {rs : List Nat} (h : AllReadyL P md ops Q S ds fuel l a w rs) (hr : Region.ready md ops l = rs := by kernel_rfl) (hne : rs ≠ [] := by simp) : wpAnyLast P md ops Q S ds (fuel + 1) l a w := wpAnyLast_ready hr hne h
theorem so_ (i k : Nat) {p : Tmp} {vo : Operand} {c' : Array Value} {g : Nat} {t : TypeId} {cs : Array Value} (hSt : St w0 w bs F)
 (h : ∀ w', St w0 w' (bs.set k (g, t, c')) F → wpAnyLast P md ops Q S ds fuel (l.setIfInBounds i true) a w')
 (hi : ops[i]? = some oi := by rfl) (hN : oi.dst = none := by rfl) (hc : Region.ready md ops l = [i] := by kernel_rfl) (hd : i ∈ ds := by decide)
 (ho : oi.op = .store t (.tmp p) vo := by rfl) (hp : a.eval (.tmp p) = .pointer (some ⟨g, 0, none⟩) := by rfl) (e : bs[k]? = some (g, t, cs) := by rfl) (hv : a.eval vo = .agg c' := by rfl)
 (hw : Region.wanted oi (yielded ops a.tmps) = true := by first | exact wanted_plain rfl | (refine wanted_on rfl ?_; simp [yielded]))
 (hs : cs.size = c'.size := by rfl) (hii : (P.info? t).map (·.size) = some c'.size := by kernel_rfl) (h1 : c'.toList.all (·.oneCell') = true := by rfl) : wpAnyLast P md ops Q S ds (fuel + 1) l a w :=
 re_ (rl_ i (fun K hK => ks_ k hSt (fun w' hS' => hK.out _ _ (h w' hS')) ho hN hp e hv hw hs hii h1) AllReadyL.nil hi hd) hc (by simp)
end
end Go.Proofs.YtloccjkcmlkifaaDoor
end

section
/- The document's small functions, told of whole operations. -/
namespace Go.Proofs.YtloccjkcmlkifaaDoor
open Go.RowKit Go.Proofs.YtloccjkcmlkifaaDoor.PAll Go.Proofs.YtloccjkcmlkifaaDoorW.PrintWords

theorem is_f (x y u v : Int) : redraftref05_Is.f x y u v = some (decide (x = u ∧ y = v ∧ (x ≠ 0 ∨ y ≠ 0))) := by
 unfold redraftref05_Is.f
 by_cases h1 : x = u
 · subst h1
   by_cases h2 : y = v
   · subst h2
     by_cases h3 : x = 0 <;> by_cases h4 : y = 0 <;> simp [h3, h4]
   · simp [h2]
 · simp [h1]
theorem is_any (x y u v : Int) (r : Bool) (w : World) (h : decide (x = u ∧ y = v ∧ (x ≠ 0 ∨ y ≠ 0)) = r) :
 Calls Tryd.prog 108 #[.agg #[.int .i64 x, .int .i64 y], .agg #[.int .i64 u, .int .i64 v]] w fun e w' => e = .returned (.bool r) ∧ Below w.heap.size w w' :=
 redraftref05_Is.calls x y u v r w (by rw [is_f, h])
theorem isC_any (a b : S41) (r : Bool) (w : World) (h : clashB a b = r) :
 Calls Tryd.prog 108 #[.agg #[.int .i64 a.f0.f0.f0, .int .i64 a.f0.f0.f1], .agg #[.int .i64 b.f0.f0.f0, .int .i64 b.f0.f0.f1]] w fun e w' => e = .returned (.bool r) ∧ Below w.heap.size w w' := is_any _ _ _ _ r w h
theorem rcopy_any (a : S41) (va : Value) (w : World) (ha : OpC w va a) (hf : fineOp a) : Calls Tryd.prog 22 #[.agg (opA a va)] w (IsOp w a) := by
 obtain ⟨A, c, rfl, h1, h2⟩ := ha
 exact (redraftref05_Copy.calls _ _ _ _ _ A c a.f3 _ _ _ _ _ _ _ _ _ _ _ _ w h2 h1 (copy_is a hf)).mono fun e w' ⟨v, he, hr, hb⟩ => ⟨v, he, hr, hb⟩
theorem rwidth_any (a : S41) (va : Value) (w : World) (ha : OpC w va a) (hf : fineOp a) (ho : ownE a = 0) : Calls Tryd.prog 105 #[.agg (opA a va)] w fun e w' => e = .returned (.int .i64 (wid a)) ∧ Below w.heap.size w w' := by
 obtain ⟨A, c, rfl, h1, h2⟩ := ha
 obtain ⟨K, hK⟩ := rwidth_is a hf.1 ho
 exact redraftref04_Width.calls K _ _ _ _ _ A c a.f3 _ _ _ _ w h2 h1 (hK K (Nat.le_refl _))
theorem rmoved_any (a : S41) (va : Value) (p : Int) (w : World) (ha : OpC w va a) (hf : fineOp a) (ho : ownE a = 0) (h3 : a.f3 = []) (hp : 0 ≤ p ∧ p ≤ 4194304) (hw : 0 ≤ wid a ∧ wid a ≤ 1048576) :
 Calls Tryd.prog 109 #[.agg (opA a va), .int .i64 p] w (RetOp w (moveE a p)) := by
 obtain ⟨A, c, rfl, h1, h2⟩ := ha
 have S := Aside0.mk (St.init w (F := fun _ => True) (fun _ _ => trivial))
 have HA := Aside0.mk (opC_mk h1 h2); have HF := Aside0.mk hf; have HO := Aside0.mk ho; have H3 := Aside0.mk h3
 have hq : IntKind.i64.wrap (p + wid a) = p + wid a := IntWalk.i64_in _ (by omega)
 unfold moveE
 clear h1 h2 hf ho hp hw h3
 by_cases h : 1048576 < p + wid a
 · rw [if_pos h]
   have h' := decide_eq_true h
   clear h
   go_enter Tryd.func109, Tryd.ntmps109
   go_wp2_with (first | ((with_reducible refine gate_box rfl ?_); refine ev_box S ?_; clear S; intro _ _ S) | ((with_reducible refine gate_new rfl ?_); refine ev_new S 41 zA ?_; clear S; intro _ _ S) | ((with_reducible refine gate_load rfl ?_); first | refine ev_load S ?_ | refine ev_fld S ?_) | ((with_reducible refine gate_st rfl ?_); refine ev_store S ?_; clear S; intro _ S) | (go_at_call 105; (with_reducible refine (rwidth_any a _ _ (HA.out.below S.out.below) HF.out HO.out).mono ?_); rintro e_ w7 ⟨rfl, hb⟩; replace S := Aside0.mk (S.out.step hb); clear hb))
   exact bodyPost_ret (results_ct rfl _ _ _ 41 _ (0, 0) _ rfl (S.out.at_ 0 rfl) Tryd.underlying41 rfl (by kernel_rfl)) rfl ⟨.slice none 0 0, rfl, opR_nil _ _, S.out.below⟩
 · rw [if_neg h]
   have h' := decide_eq_false h
   clear h
   go_enter Tryd.func109, Tryd.ntmps109
   go_wp2_with (first | ((with_reducible refine gate_box rfl ?_); refine ev_box S ?_; clear S; intro _ _ S) | ((with_reducible refine gate_new rfl ?_); refine ev_new S 41 zA ?_; clear S; intro _ _ S) | ((with_reducible refine gate_load rfl ?_); first | refine ev_load S ?_ | refine ev_fld S ?_) | ((with_reducible refine gate_st rfl ?_); refine ev_store S ?_; clear S; intro _ S) | ((with_reducible refine gate_st rfl ?_); refine ev_set S ?_; clear S; intro _ S) | (go_at_call 105; (with_reducible refine (rwidth_any a _ _ (HA.out.below S.out.below) HF.out HO.out).mono ?_); rintro e_ w7 ⟨rfl, hb⟩; replace S := Aside0.mk (S.out.step hb); clear hb) | (go_at_call 22; (with_reducible refine (rcopy_any a _ _ (HA.out.below S.out.below) HF.out).mono ?_); rintro e_ w7 ⟨v, rfl, hR, hb⟩; obtain ⟨Ao, co, rfl⟩ := hR.slice; replace S := Aside0.mk (S.out.addOp hb hR); clear hb hR))
   exact bodyPost_ret (results_ct rfl _ _ _ 41 _ (0, 0) _ rfl (S.out.at_ 0 rfl) Tryd.underlying41 rfl (by kernel_rfl)) rfl ⟨_, rfl, by have := S.out.now.2; unfold OpR at this ⊢; rw [H3.out] at this ⊢; exact this, S.out.below⟩
def covE (a : S41) (l : List S94) : S41 × Int := if 0 < l.length ∧ 1048576 < lastHi l then (z41, 24) else if 32768 < l.length then (z41, 21) else (⟨a.f0, a.f1, a.f2, l, a.f4, a.f5⟩, 0)
theorem cov_f (k : Nat) (a : S41) (l : List S94) (hl : l.length ≤ 4611686018427387904) : redraftref05_covering.f (k + 2) a.f0.f0.f0 a.f0.f0.f1 a.f0.f1 a.f1 a.f2 a.f3 a.f4.f0 a.f4.f1 a.f5 l =
 some ((covE a l).1.f0.f0.f0, (covE a l).1.f0.f0.f1, (covE a l).1.f0.f1, (covE a l).1.f1, (covE a l).1.f2, (covE a l).1.f3, (covE a l).1.f4.f0, (covE a l).1.f4.f1, (covE a l).1.f5, (covE a l).2) := by
 unfold redraftref05_covering.f covE
 by_cases h0 : 0 < l.length
 · have w1 : wrap64 ((l.length : Int) - 1) = ((l.length - 1 : Nat) : Int) := by rw [wrap_id (by omega) (by omega)]; omega
   rw [if_pos (by omega), w1, if_pos (by omega), if_pos (by omega), redraftref05_covering.j0]
   have e : (rd_T94 l ((l.length - 1 : Nat) : Int)).f1 = lastHi l := by unfold rd_T94 lastHi; rw [Int.toNat_natCast]
   rw [e]
   by_cases h1 : 1048576 < lastHi l
   · rw [if_pos (decide_eq_true h1), if_pos ⟨h0, h1⟩]; rfl
   · rw [if_neg (by rw [decide_eq_false (show ¬ lastHi l > 1048576 from h1)]; simp), if_neg (show ¬ (0 < l.length ∧ 1048576 < lastHi l) from fun h => h1 h.2)]
     by_cases h2 : 32768 < l.length
     · rw [if_pos (show (l.length : Int) > 32768 by omega), if_pos h2]; rfl
     · rw [if_neg (show ¬ (l.length : Int) > 32768 by omega), if_neg h2]
 · rw [if_neg (by omega), redraftref05_covering.j0, if_neg (by simp), if_neg (show ¬ (l.length : Int) > 32768 by omega), if_neg (show ¬ (0 < l.length ∧ 1048576 < lastHi l) from fun h => h0 h.1), if_neg (show ¬ 32768 < l.length by omega)]
theorem covering_any (a : S41) (va : Value) (l : List S94) (u : Value) (w0 w : World) (bs : List Bx) (F : World → Prop) (S : St w0 w bs F) (hbs : ∀ b ∈ bs, b.2.1 ∉ (94 : Nat) :: k94.E) (ha : OpC w0 va a) (hu : Kd.R k94 94 w w0.heap.size (fun _ => True) u l) (hl : l.length ≤ 4611686018427387904) :
 Calls Tryd.prog 111 #[.agg (opA a va), u] w fun e w' => ∃ v, e = .returned (.tuple #[.agg (opA (covE a l).1 v), .int .i64 (covE a l).2]) ∧ (∃ A c, v = .slice A (covE a l).1.f3.length c) ∧ St w0 w' bs (fun W => True ∧ OpR W w0.heap.size v (covE a l).1) := by
 have hfoot := foot_old ha.foot S.below
 obtain ⟨A, c, rfl, h1, h2⟩ := hfoot.now
 have hk : ∀ W_, Kept w W_ (fun k => k ∉ bs.map (·.1) ∧ w0.heap.size ≤ k) → Kd.C k94 W_ A a.f3.length a.f3 := fun W_ hK => by
  obtain ⟨A', c', e, _, h⟩ := hfoot W_ (fun k hk hlt => hK.2 k hlt (by omega))
  injection e with e1 _ _
  rw [e1]; exact h
 have hu' := S.notBox hu hbs
 exact (redraftref05_covering.calls 2 _ _ _ _ _ A c a.f3 _ _ _ _ u l _ _ _ _ _ _ _ _ _ _ w0 w S.below hk h1 hu' (cov_f 0 a l hl)).mono fun e w' ⟨v, he, hr, hb, hkk⟩ => ⟨v, he, Kd.R_slice hr, S.keptR hb hkk hr⟩
end Go.Proofs.YtloccjkcmlkifaaDoor
end

section
/- span.Through, and what the document makes of the same ranges: alike. -/
namespace Go.Proofs.YtloccjkcmlkifaaDoor
open Go.RowKit Go.Proofs.YtloccjkcmlkifaaDoor.PAll Go.Proofs.YtloccjkcmlkifaaDoorW.PrintWords

def Nrm : Int → List S94 → Prop
 | _, [] => True
 | p, r :: t => p < r.f0 ∧ r.f0 < r.f1 ∧ r.f1 ≤ 1048576 ∧ Nrm r.f1 t
theorem rng_nrm (l : List S94) : ∀ (d i : Nat), l.length = i + d → (rngFrom l d i).2 = 0 → Nrm (if 0 < i then (l.getD (i - 1) z94).f1 else -1) (l.drop i) := by
 intro d
 induction d with
 | zero => intro i h _; rw [List.drop_eq_nil_of_le (by omega)]; trivial
 | succ d ih =>
  intro i h h0
  have hi : i < l.length := by omega
  unfold rngFrom at h0
  rw [if_pos hi] at h0
  have hd : l.drop i = l.getD i z94 :: l.drop (i + 1) := by
   rw [List.drop_eq_getElem_cons hi, List.getD_eq_getElem?_getD, List.getElem?_eq_getElem hi]; rfl
  by_cases c1 : (l.getD i z94).f0 < 0 ∨ 1048576 < (l.getD i z94).f1 ∨ (l.getD i z94).f1 ≤ (l.getD i z94).f0
  · rw [if_pos c1] at h0; exact absurd h0 (by simp)
  · rw [if_neg c1] at h0
    by_cases c2 : 0 < i ∧ (l.getD i z94).f0 ≤ (l.getD (i - 1) z94).f1
    · rw [if_pos c2] at h0; exact absurd h0 (by simp)
    · rw [if_neg c2] at h0
      have := ih (i + 1) (by omega) h0
      rw [if_pos (by omega), Nat.add_sub_cancel] at this
      rw [hd]
      refine ⟨?_, by omega, by omega, this⟩
      by_cases hp : 0 < i
      · rw [if_pos hp]; have := fun h => c2 ⟨hp, h⟩; omega
      · rw [if_neg hp]; omega
theorem rng_ok {l : List S94} (h : (rngE l).2 = 0) : l.length ≤ 32768 ∧ Nrm (-1) l := by
 unfold rngE at h
 by_cases c : 32768 < l.length
 · rw [if_pos c] at h; exact absurd h (by decide)
 · rw [if_neg c] at h
   have := rng_nrm l l.length 0 (by omega) h
   exact ⟨by omega, by simpa using this⟩
theorem nrm_rng (l : List S94) : ∀ (d i : Nat), l.length = i + d → -1 ≤ (if 0 < i then (l.getD (i - 1) z94).f1 else -1) → Nrm (if 0 < i then (l.getD (i - 1) z94).f1 else -1) (l.drop i) → rngFrom l d i = (0, 0) := by
 intro d
 induction d with
 | zero => intro i h _ _; rfl
 | succ d ih =>
  intro i h hp h0
  have hi : i < l.length := by omega
  have hd : l.drop i = l.getD i z94 :: l.drop (i + 1) := by
   rw [List.drop_eq_getElem_cons hi, List.getD_eq_getElem?_getD, List.getElem?_eq_getElem hi]; rfl
  rw [hd] at h0
  obtain ⟨a1, a2, a3, a4⟩ := h0
  unfold rngFrom
  rw [if_pos hi, if_neg (by omega)]
  have c2 : ¬ (0 < i ∧ (l.getD i z94).f0 ≤ (l.getD (i - 1) z94).f1) := by
   rintro ⟨q1, q2⟩
   rw [if_pos q1] at a1
   omega
  rw [if_neg c2]
  refine ih (i + 1) (by omega) ?_ ?_
  · rw [if_pos (by omega), Nat.add_sub_cancel]; omega
  · rw [if_pos (by omega), Nat.add_sub_cancel]; exact a4
theorem ok_rng {l : List S94} (hl : l.length ≤ 32768) (h : Nrm (-1) l) : rngE l = (0, 0) := by
 unfold rngE
 rw [if_neg (by omega)]
 exact nrm_rng l l.length 0 (by omega) (by simp) (by simpa using h)
theorem Nrm.mono {p q : Int} : ∀ {l : List S94}, Nrm p l → q ≤ p → Nrm q l
 | [], _, _ => trivial
 | _ :: _, h, hq => ⟨by have := h.1; omega, h.2⟩
theorem Nrm.gap {p : Int} : ∀ {l : List S94}, Nrm p l → Gap l
 | [], _ => trivial
 | [_], h => h.2.1
 | _ :: s :: t, h => ⟨h.2.1, h.2.2.2.1, Nrm.gap (l := s :: t) h.2.2.2⟩

def sp (p n : Int) (r : S94) : List S94 := if r.f1 ≤ p then [r] else if p ≤ r.f0 then [⟨r.f0 + n, r.f1 + n⟩] else [⟨r.f0, p⟩, ⟨p + n, r.f1 + n⟩]
def thrS (p n : Int) (l : List S94) : List S94 := l.flatMap (sp p n)
def sh (p n x : Int) : Int := if x ≤ p then x else x + n
theorem sp_len (p n : Int) (r : S94) : (sp p n r).length ≤ 2 := by
 unfold sp
 split
 · simp
 · split <;> simp
theorem thr_len (p n : Int) (l : List S94) : (thrS p n l).length ≤ 2 * l.length := by
 induction l with
 | nil => simp [thrS]
 | cons r t ih =>
  have := sp_len p n r
  simp only [thrS, List.flatMap_cons, List.length_append, List.length_cons] at *
  omega
def lastLe (acc : List S94) (q : Int) : Prop := 0 < acc.length → (acc.getD (acc.length - 1) z94).f1 ≤ q
theorem lastLe_snoc (acc : List S94) (r : S94) (q : Int) (h : r.f1 ≤ q) : lastLe (acc ++ [r]) q := fun _ => by
 rw [List.getD_eq_getElem?_getD]
 simpa using h
theorem add_no (acc : List S94) (lo hi : Int) (h : hi ≤ lo) : span_add.f acc lo hi = some acc := by
 unfold span_add.f
 rw [if_pos h]
theorem add_app (acc : List S94) (lo hi q : Int) (hq : lastLe acc q) (h1 : q < lo) (h2 : lo < hi) (hl : acc.length ≤ 4398046511104) : span_add.f acc lo hi = some (acc ++ [⟨lo, hi⟩]) := by
 unfold span_add.f
 have hl' : acc.length < 8796093022208 := by omega
 rw [if_neg (show ¬ lo ≥ hi by omega)]
 by_cases h : 0 < acc.length
 · have w : wrap64 ((acc.length : Int) - 1) = ((acc.length - 1 : Nat) : Int) := by rw [wrap_id (by omega) (by omega)]; omega
   have e : rd_T94 acc ((acc.length - 1 : Nat) : Int) = acc.getD (acc.length - 1) z94 := by unfold rd_T94; rw [Int.toNat_natCast]
   have := hq h
   rw [if_pos (show (acc.length : Int) > 0 by omega), w, if_pos (by omega), if_pos (by omega), e, if_neg (by omega), if_pos hl']
 · rw [if_neg (show ¬ (acc.length : Int) > 0 by omega), if_pos hl']
def bnd (l : List S94) : List S94 × Int := if 32768 < l.length then ([], 21) else (l, 0)
theorem bnd_f (l : List S94) : span_bounded.f l = some (bnd l) := by
 unfold span_bounded.f bnd
 by_cases h : 32768 < l.length
 · rw [if_pos (show (l.length : Int) > 32768 by omega), if_pos h]
 · rw [if_neg (show ¬ (l.length : Int) > 32768 by omega), if_neg h]
theorem thr_loop (L : List S94) (p n : Int) (hp : 0 ≤ p ∧ p ≤ 1048576) (hn : 1 ≤ n ∧ n ≤ 1048576) (hL : L.length ≤ 1048576) : ∀ (d k i : Nat) (acc : List S94) (x : Int), L.length = i + d → -1 ≤ x → Nrm x (L.drop i) → lastLe acc (sh p n x) → acc.length ≤ 2 * i → d + 1 ≤ k →
 span_Through.l0 k p n acc L (L.length : Int) (i : Int) = some (bnd (acc ++ thrS p n (L.drop i))) := by
 intro d
 induction d with
 | zero =>
  intro k i acc x h1 hx hN hla hal hk
  obtain ⟨k, rfl⟩ : ∃ m, k = m + 1 := ⟨k - 1, by omega⟩
  rw [span_Through.l0, if_neg (by omega), bnd_f, List.drop_eq_nil_of_le (by omega)]
  simp [thrS]
 | succ d ih =>
  intro k i acc x h1 hx hN hla hal hk
  obtain ⟨k, rfl⟩ : ∃ m, k = m + 1 := ⟨k - 1, by omega⟩
  have hi : i < L.length := by omega
  have w : wrap64 ((i : Int) + 1) = ((i + 1 : Nat) : Int) := by clear ih hk hN hla; rw [wrap_id (by omega) (by omega)]; omega
  obtain ⟨r, hr⟩ : ∃ r, r = L.getD i z94 := ⟨_, rfl⟩
  have hd : L.drop i = r :: L.drop (i + 1) := by
   rw [hr, List.drop_eq_getElem_cons hi, List.getD_eq_getElem?_getD, List.getElem?_eq_getElem hi]; rfl
  have e : rd_T94 L (i : Int) = r := by unfold rd_T94; rw [Int.toNat_natCast, hr]
  rw [hd] at hN
  obtain ⟨b1, b2, b3, b4⟩ := hN
  have w2 : wrap64 (mx r.f0 p + n) = mx r.f0 p + n := by unfold mx; split <;> exact wrap_id (by omega) (by omega)
  have w3 : wrap64 (r.f1 + n) = r.f1 + n := wrap_id (by omega) (by omega)
  have hth : thrS p n (L.drop i) = sp p n r ++ thrS p n (L.drop (i + 1)) := by rw [hd]; rfl
  rw [span_Through.l0, if_pos (by omega), if_pos (by omega), if_pos (by omega), e, w2, w3, w, hth]
  have hsx : sh p n x < r.f0 ∨ p ≤ r.f0 ∧ sh p n x < r.f0 + n := by unfold sh; split <;> omega
  unfold sp
  by_cases c1 : r.f1 ≤ p
  · have m1 : mn r.f1 p = r.f1 := by unfold mn; rw [if_neg (by omega)]
    have m2 : mx r.f0 p = p := by unfold mx; rw [if_pos (by omega)]
    rw [m1, m2, add_app acc r.f0 r.f1 (sh p n x) hla (by omega) b2 (by omega)]
    simp only [Option.bind_some]
    rw [add_no _ _ _ (by omega)]
    simp only [Option.bind_some]
    rw [if_pos c1, ih k (i + 1) (acc ++ [⟨r.f0, r.f1⟩]) r.f1 (by omega) (by omega) b4 (lastLe_snoc _ _ _ (by unfold sh; rw [if_pos c1]; exact Int.le_refl _)) (by simp; omega) (by omega), List.append_assoc]
  · rw [if_neg c1]
    have hsr : r.f1 + n ≤ sh p n r.f1 := by unfold sh; rw [if_neg c1]; exact Int.le_refl _
    by_cases c2 : p ≤ r.f0
    · have m1 : mn r.f1 p = p := by unfold mn; rw [if_pos (by omega)]
      have m2 : mx r.f0 p = r.f0 := by unfold mx; split <;> omega
      rw [m1, m2, add_no _ _ _ c2]
      simp only [Option.bind_some]
      rw [add_app acc (r.f0 + n) (r.f1 + n) (sh p n x) hla (by omega) (by omega) (by omega)]
      simp only [Option.bind_some]
      rw [if_pos c2, ih k (i + 1) (acc ++ [⟨r.f0 + n, r.f1 + n⟩]) r.f1 (by omega) (by omega) b4 (lastLe_snoc _ _ _ hsr) (by simp; omega) (by omega), List.append_assoc]
    · have m1 : mn r.f1 p = p := by unfold mn; rw [if_pos (by omega)]
      have m2 : mx r.f0 p = p := by unfold mx; rw [if_pos (by omega)]
      rw [m1, m2, add_app acc r.f0 p (sh p n x) hla (by omega) (by omega) (by omega)]
      simp only [Option.bind_some]
      rw [add_app (acc ++ [(⟨r.f0, p⟩ : S94)]) (p + n) (r.f1 + n) p (lastLe_snoc _ _ _ (Int.le_refl _)) (by omega) (by omega) (by simp; omega)]
      simp only [Option.bind_some]
      rw [if_neg c2, ih k (i + 1) (acc ++ [(⟨r.f0, p⟩ : S94)] ++ [(⟨p + n, r.f1 + n⟩ : S94)]) r.f1 (by omega) (by omega) b4 (lastLe_snoc _ _ _ hsr) (by simp; omega) (by omega)]
      simp
def thrE (l : List S94) (p n : Int) : List S94 × Int := if 0 < l.length ∧ p < lastHi l ∧ 1048576 < lastHi l + n then ([], 24) else bnd (thrS p n l)
theorem through_is (l : List S94) (p n : Int) (hl : (rngE l).2 = 0) (hp : 0 ≤ p ∧ p ≤ 1048576) (hn : 1 ≤ n ∧ n ≤ 1048576) (hh : -1048576 ≤ lastHi l ∧ lastHi l ≤ 1048576) : ∃ k, span_Through.f k l p n = some (thrE l p n) := by
 obtain ⟨hlen, hN⟩ := rng_ok hl
 obtain ⟨K, hK⟩ := span_chk l
 dsimp only at hK
 obtain ⟨k, hk⟩ : ∃ k, k = K + l.length + 8 := ⟨_, rfl⟩
 refine ⟨k + 2, ?_⟩
 have ho : ∀ x : Int, 0 ≤ x ∧ x ≤ 1048576 → span_outside.f x = some false := fun x hx => by
  unfold span_outside.f
  rw [if_neg (by omega), decide_eq_false (by omega)]
 have hj1 : span_Through.j1 (k + 1) l p n = some (bnd (thrS p n l)) := by
  rw [span_Through.j1]
  have := thr_loop l p n hp hn (by omega) l.length k 0 [] (-1) (by omega) (by omega) (by simpa using hN) (fun h => absurd h (by simp)) (by simp) (by omega)
  simpa using this
 unfold span_Through.f
 rw [hK (k + 2) (by omega)]
 simp only [Option.bind_some]
 rw [if_pos hl, ho p hp]
 simp only [Option.bind_some]
 rw [if_neg (by simp), ho n ⟨by omega, hn.2⟩]
 simp only [Option.bind_some]
 rw [show k + 2 = (k + 1) + 1 from rfl, span_Through.j0, if_neg (by simp)]
 unfold thrE
 by_cases h0 : 0 < l.length
 · have w : wrap64 ((l.length : Int) - 1) = ((l.length - 1 : Nat) : Int) := by rw [wrap_id (by omega) (by omega)]; omega
   have e : (rd_T94 l ((l.length - 1 : Nat) : Int)).f1 = lastHi l := by unfold rd_T94 lastHi; rw [Int.toNat_natCast]
   have w2 : wrap64 (lastHi l + n) = lastHi l + n := wrap_id (by omega) (by omega)
   rw [if_pos (show (l.length : Int) > 0 by omega), w, if_pos (by omega), if_pos (by omega), e, w2]
   by_cases c1 : p < lastHi l
   · rw [if_pos (show lastHi l > p from c1)]
     by_cases c2 : 1048576 < lastHi l + n
     · rw [if_pos (show lastHi l + n > 1048576 from c2), if_pos ⟨h0, c1, c2⟩]
     · rw [if_neg (show ¬ lastHi l + n > 1048576 from c2), if_neg (fun h => c2 h.2.2), hj1]
   · rw [if_neg (show ¬ lastHi l > p from c1), if_neg (fun h => c1 h.2.1), hj1]
 · rw [if_neg (show ¬ (l.length : Int) > 0 by omega), if_neg (fun h => h0 h.1), hj1]
end Go.Proofs.YtloccjkcmlkifaaDoor
end

section
/- xform.include, told of whole operations. -/
namespace Go.Proofs.YtloccjkcmlkifaaDoor
open Go.RowKit Go.Proofs.YtloccjkcmlkifaaDoor.PAll Go.Proofs.YtloccjkcmlkifaaDoorW.PrintWords

def incP (a b : S41) (e : Bool) (r : List S94 × Int) : S41 × Int :=
 if clashB a b = true then (z41, 50) else if b.f0.f1 ≠ 1 then (a, 0)
 else if a.f0.f1 = 1 then (if b.f1 < a.f1 ∨ (b.f1 = a.f1 ∧ e = true) then moveE a (a.f1 + wid b) else (a, 0))
 else if a.f0.f1 = 2 ∨ a.f0.f1 = 3 then rangedE a r else (a, 0)

set_option maxHeartbeats 4000000 in
theorem include_any (a b : S41) (e : Bool) (va vb : Value) (r : List S94 × Int) (w : World) (hG : GW w) (ha : OpC w va a) (hb : OpC w vb b) (hl : a.f3.length ≤ 1048576)
 (hp : 0 ≤ a.f1 ∧ a.f1 ≤ 1048576) (hwa : 0 ≤ wid a ∧ wid a ≤ 1048576) (hwb : 0 ≤ wid b ∧ wid b ≤ 1048576)
 (hr : a.f0.f1 = 2 ∨ a.f0.f1 = 3 → b.f0.f1 = 1 → ∃ k, span_Through.f k a.f3 b.f1 (wid b) = some r) :
 Calls Tryd.prog 56 #[.agg (opA a va), .agg (opA b vb), .bool e] w (RetOp w (incP a b e r)) := by
 obtain ⟨A, c, rfl, h1, h2⟩ := ha
 obtain ⟨B, d, rfl, h3, h4⟩ := hb
 have S := Aside0.mk (St.init w (F := fun _ => True) (fun _ _ => trivial))
 have H1 := Aside0.mk h1; have H2 := Aside0.mk h2
 have HA := Aside0.mk (opC_mk h1 h2); have HB := Aside0.mk (opC_mk h3 h4)
 have HG := Aside0.mk hG
 clear h1 h2 h3 h4 hG
 unfold incP
 by_cases hcl : clashB a b = true
 · rw [if_pos hcl]
   have HC := Aside0.mk hcl
   clear hcl hr
   go_enter Tryd.func56, Tryd.ntmps56
   go_wp2_with (first | ((with_reducible refine gate_box rfl ?_); refine ev_box S ?_; clear S; intro _ _ S) | ((with_reducible refine gate_new rfl ?_); refine ev_new S 41 zA ?_; clear S; intro _ _ S) | ((with_reducible refine gate_load rfl ?_); first | refine ev_load S ?_ | refine ev_fld S ?_) | ((with_reducible refine gate_st rfl ?_); refine ev_store S ?_; clear S; intro _ S) | (go_at_call 71; (with_reducible refine (clash_any a b _ _ _ _ (HA.out.below S.out.below) (HB.out.below S.out.below) HC.out).mono ?_); rintro e w7 ⟨rfl, hb⟩; replace S := Aside0.mk (S.out.step hb); clear hb))
   exact bodyPost_ret (results_ct rfl _ _ _ 41 zA (0, 0) _ rfl (S.out.at_ 0 rfl) Tryd.underlying41 rfl (by kernel_rfl)) rfl ⟨.slice none 0 0, rfl, opR_nil _ _, S.out.below⟩
 rw [if_neg hcl]
 have HC : Aside0 (clashB a b = false) := ⟨by simpa using hcl⟩
 clear hcl
 by_cases hk : b.f0.f1 = 1
 case neg =>
  rw [if_pos hk]
  have hk' : (b.f0.f1 != 1) = true := bne_iff_ne.mpr hk
  clear hk hr
  go_enter Tryd.func56, Tryd.ntmps56
  go_wp2_with (first | ((with_reducible refine gate_box rfl ?_); refine ev_box S ?_; clear S; intro _ _ S) | ((with_reducible refine gate_new rfl ?_); refine ev_new S 41 zA ?_; clear S; intro _ _ S) | ((with_reducible refine gate_load rfl ?_); first | refine ev_load S ?_ | refine ev_fld S ?_) | ((with_reducible refine gate_st rfl ?_); refine ev_store S ?_; clear S; intro _ S) | (go_at_call 71; (with_reducible refine (clash_any a b _ _ _ _ (HA.out.below S.out.below) (HB.out.below S.out.below) HC.out).mono ?_); rintro e w7 ⟨rfl, hb⟩; replace S := Aside0.mk (S.out.step hb); clear hb) | (go_at_call 64; (with_reducible refine (clone_any a _ _ (HA.out.below S.out.below) hl).mono ?_); rintro e w7 ⟨v, rfl, hR, hb⟩; obtain ⟨Ao, co, rfl⟩ := hR.slice; replace S := Aside0.mk (S.out.addOp hb hR); clear hb hR))
  exact bodyPost_ret (results_ct rfl _ _ _ 41 _ (0, 0) _ rfl (S.out.at_ 0 rfl) Tryd.underlying41 rfl (by kernel_rfl)) rfl ⟨_, rfl, S.out.now.2, S.out.below⟩
 rw [if_neg (show ¬ b.f0.f1 ≠ 1 from fun h => h hk)]
 have hk' : (b.f0.f1 != 1) = false := bne_eq_false_iff_eq.mpr hk
 have HK := Aside0.mk hk
 clear hk
 by_cases ka : a.f0.f1 = 1
 · rw [if_pos ka]
   have ka' : (a.f0.f1 == 1) = true := beq_iff_eq.mpr ka
   clear ka hr
   by_cases hlt : b.f1 < a.f1 ∨ (b.f1 = a.f1 ∧ e = true)
   · rw [if_pos hlt]
     have HW := Aside0.mk (show IntKind.i64.wrap (a.f1 + wid b) = a.f1 + wid b from IntWalk.i64_in _ (by omega))
     have HM := Aside0.mk (show (-4611686018427387904 ≤ a.f1 + wid b ∧ a.f1 + wid b ≤ 4611686018427387904) ∧ (-4611686018427387904 ≤ wid a ∧ wid a ≤ 4611686018427387000) by omega)
     clear hp hwa hwb
     by_cases hlt' : b.f1 < a.f1
     · have h1 : decide (b.f1 < a.f1) = true := decide_eq_true hlt'
       clear hlt hlt'
       have hw := HW.out
       go_enter Tryd.func56, Tryd.ntmps56
       go_wp2_with (first | ((with_reducible refine gate_box rfl ?_); refine ev_box S ?_; clear S; intro _ _ S) | ((with_reducible refine gate_new rfl ?_); refine ev_new S 41 zA ?_; clear S; intro _ _ S) | ((with_reducible refine gate_load rfl ?_); first | refine ev_load S ?_ | refine ev_fld S ?_) | ((with_reducible refine gate_st rfl ?_); refine ev_store S ?_; clear S; intro _ S) | (go_at_call 71; (with_reducible refine (clash_any a b _ _ _ _ (HA.out.below S.out.below) (HB.out.below S.out.below) HC.out).mono ?_); rintro e w7 ⟨rfl, hb⟩; replace S := Aside0.mk (S.out.step hb); clear hb) | (go_at_call 53; (with_reducible refine (width_any b _ _ (GW.below HG.out S.out.below) (HB.out.below S.out.below)).mono ?_); rintro e w7 ⟨rfl, hb⟩; replace S := Aside0.mk (S.out.step hb); clear hb) | (go_at_call 72; (with_reducible refine (moved_any a _ (a.f1 + wid b) _ (GW.below HG.out S.out.below) (HA.out.below S.out.below) HM.out.1 HM.out.2).mono ?_); rintro e w7 ⟨v, rfl, hR, hb⟩; obtain ⟨Ao, co, rfl⟩ := hR.slice; replace S := Aside0.mk (S.out.addOp hb hR); clear hb hR))
       exact bodyPost_ret (results_ct rfl _ _ _ 41 _ (0, 0) _ rfl (S.out.at_ 0 rfl) Tryd.underlying41 rfl (by kernel_rfl)) rfl ⟨_, rfl, S.out.now.2, S.out.below⟩
     · have h1 : decide (b.f1 < a.f1) = false := decide_eq_false hlt'
       obtain ⟨h2, rfl⟩ := hlt.resolve_left hlt'
       have h2' : (b.f1 == a.f1) = true := beq_iff_eq.mpr h2
       clear hlt hlt' h2
       have hw := HW.out
       go_enter Tryd.func56, Tryd.ntmps56
       go_wp2_with (first | ((with_reducible refine gate_box rfl ?_); refine ev_box S ?_; clear S; intro _ _ S) | ((with_reducible refine gate_new rfl ?_); refine ev_new S 41 zA ?_; clear S; intro _ _ S) | ((with_reducible refine gate_load rfl ?_); first | refine ev_load S ?_ | refine ev_fld S ?_) | ((with_reducible refine gate_st rfl ?_); refine ev_store S ?_; clear S; intro _ S) | (go_at_call 71; (with_reducible refine (clash_any a b _ _ _ _ (HA.out.below S.out.below) (HB.out.below S.out.below) HC.out).mono ?_); rintro e w7 ⟨rfl, hb⟩; replace S := Aside0.mk (S.out.step hb); clear hb) | (go_at_call 53; (with_reducible refine (width_any b _ _ (GW.below HG.out S.out.below) (HB.out.below S.out.below)).mono ?_); rintro e w7 ⟨rfl, hb⟩; replace S := Aside0.mk (S.out.step hb); clear hb) | (go_at_call 72; (with_reducible refine (moved_any a _ (a.f1 + wid b) _ (GW.below HG.out S.out.below) (HA.out.below S.out.below) HM.out.1 HM.out.2).mono ?_); rintro e w7 ⟨v, rfl, hR, hb⟩; obtain ⟨Ao, co, rfl⟩ := hR.slice; replace S := Aside0.mk (S.out.addOp hb hR); clear hb hR))
       exact bodyPost_ret (results_ct rfl _ _ _ 41 _ (0, 0) _ rfl (S.out.at_ 0 rfl) Tryd.underlying41 rfl (by kernel_rfl)) rfl ⟨_, rfl, S.out.now.2, S.out.below⟩
   · rw [if_neg hlt]
     clear hp hwa hwb
     have h1 : decide (b.f1 < a.f1) = false := decide_eq_false (fun h => hlt (.inl h))
     by_cases h2 : b.f1 = a.f1
     · have h2' : (b.f1 == a.f1) = true := beq_iff_eq.mpr h2
       have he : e = false := by
        cases e with
        | false => rfl
        | true => exact absurd (.inr ⟨h2, rfl⟩) hlt
       subst he
       clear hlt h2
       go_enter Tryd.func56, Tryd.ntmps56
       go_wp2_with (first | ((with_reducible refine gate_box rfl ?_); refine ev_box S ?_; clear S; intro _ _ S) | ((with_reducible refine gate_new rfl ?_); refine ev_new S 41 zA ?_; clear S; intro _ _ S) | ((with_reducible refine gate_load rfl ?_); first | refine ev_load S ?_ | refine ev_fld S ?_) | ((with_reducible refine gate_st rfl ?_); refine ev_store S ?_; clear S; intro _ S) | (go_at_call 71; (with_reducible refine (clash_any a b _ _ _ _ (HA.out.below S.out.below) (HB.out.below S.out.below) HC.out).mono ?_); rintro e w7 ⟨rfl, hb⟩; replace S := Aside0.mk (S.out.step hb); clear hb) | (go_at_call 53; (with_reducible refine (width_any b _ _ (GW.below HG.out S.out.below) (HB.out.below S.out.below)).mono ?_); rintro e w7 ⟨rfl, hb⟩; replace S := Aside0.mk (S.out.step hb); clear hb) | (go_at_call 64; (with_reducible refine (clone_any a _ _ (HA.out.below S.out.below) hl).mono ?_); rintro e w7 ⟨v, rfl, hR, hb⟩; obtain ⟨Ao, co, rfl⟩ := hR.slice; replace S := Aside0.mk (S.out.addOp hb hR); clear hb hR))
       exact bodyPost_ret (results_ct rfl _ _ _ 41 _ (0, 0) _ rfl (S.out.at_ 0 rfl) Tryd.underlying41 rfl (by kernel_rfl)) rfl ⟨_, rfl, S.out.now.2, S.out.below⟩
     · have h2' : (b.f1 == a.f1) = false := beq_eq_false_iff_ne.mpr h2
       clear hlt h2
       go_enter Tryd.func56, Tryd.ntmps56
       go_wp2_with (first | ((with_reducible refine gate_box rfl ?_); refine ev_box S ?_; clear S; intro _ _ S) | ((with_reducible refine gate_new rfl ?_); refine ev_new S 41 zA ?_; clear S; intro _ _ S) | ((with_reducible refine gate_load rfl ?_); first | refine ev_load S ?_ | refine ev_fld S ?_) | ((with_reducible refine gate_st rfl ?_); refine ev_store S ?_; clear S; intro _ S) | (go_at_call 71; (with_reducible refine (clash_any a b _ _ _ _ (HA.out.below S.out.below) (HB.out.below S.out.below) HC.out).mono ?_); rintro e w7 ⟨rfl, hb⟩; replace S := Aside0.mk (S.out.step hb); clear hb) | (go_at_call 53; (with_reducible refine (width_any b _ _ (GW.below HG.out S.out.below) (HB.out.below S.out.below)).mono ?_); rintro e w7 ⟨rfl, hb⟩; replace S := Aside0.mk (S.out.step hb); clear hb) | (go_at_call 64; (with_reducible refine (clone_any a _ _ (HA.out.below S.out.below) hl).mono ?_); rintro e w7 ⟨v, rfl, hR, hb⟩; obtain ⟨Ao, co, rfl⟩ := hR.slice; replace S := Aside0.mk (S.out.addOp hb hR); clear hb hR))
       exact bodyPost_ret (results_ct rfl _ _ _ 41 _ (0, 0) _ rfl (S.out.at_ 0 rfl) Tryd.underlying41 rfl (by kernel_rfl)) rfl ⟨_, rfl, S.out.now.2, S.out.below⟩
 · rw [if_neg ka]
   have ka' : (a.f0.f1 == 1) = false := beq_eq_false_iff_ne.mpr ka
   clear ka hp
   by_cases kh : a.f0.f1 = 2 ∨ a.f0.f1 = 3
   · rw [if_pos kh]
     obtain ⟨k, hk⟩ := hr kh HK.out
     have HT := Aside0.mk hk
     have H5 : (a.f0.f1 == 2) = true ∨ ((a.f0.f1 == 2) = false) ∧ (a.f0.f1 == 3) = true := by
      rcases kh with h | h
      · exact .inl (by simp [h])
      · exact .inr ⟨by simp [h], by simp [h]⟩
     clear hr hk kh hwa hwb
     rcases H5 with k2 | ⟨k2, k3⟩
     all_goals
      go_enter Tryd.func56, Tryd.ntmps56
      go_wp2_with (first | ((with_reducible refine gate_box rfl ?_); refine ev_box S ?_; clear S; intro _ _ S) | ((with_reducible refine gate_new rfl ?_); refine ev_new S 41 zA ?_; clear S; intro _ _ S) | ((with_reducible refine gate_load rfl ?_); first | refine ev_load S ?_ | refine ev_fld S ?_) | ((with_reducible refine gate_st rfl ?_); refine ev_store S ?_; clear S; intro _ S) | (go_at_call 71; (with_reducible refine (clash_any a b _ _ _ _ (HA.out.below S.out.below) (HB.out.below S.out.below) HC.out).mono ?_); rintro e w7 ⟨rfl, hb⟩; replace S := Aside0.mk (S.out.step hb); clear hb) | (go_at_call 53; (with_reducible refine (width_any b _ _ (GW.below HG.out S.out.below) (HB.out.below S.out.below)).mono ?_); rintro e w7 ⟨rfl, hb⟩; replace S := Aside0.mk (S.out.step hb); clear hb) | (go_at_call 73; (with_reducible refine (span_Through.calls k A c a.f3 b.f1 (wid b) r.1 r.2 _ (Kd.C_below H2.out S.out.below) H1.out HT.out).mono ?_); rintro e w7 ⟨v, rfl, hR, hb⟩; obtain ⟨Ao, co, rfl⟩ := Kd.R_slice hR; replace S := Aside0.mk (S.out.addR hb hR); clear hb hR) | (go_at_call 74; (with_reducible refine (ranged_any a _ r _ w _ _ _ S.out ?hbs HA.out S.out.now.2).mono ?_); (case hbs => simp [k94_E]); rintro e w7 ⟨v, rfl, ⟨Ao, co, rfl⟩, hS⟩; replace S := Aside0.mk hS; clear hS))
      exact bodyPost_ret (results_ct rfl _ _ _ 41 _ (0, 0) _ rfl (S.out.at_ 0 rfl) Tryd.underlying41 rfl (by kernel_rfl)) rfl ⟨_, rfl, S.out.now.2, S.out.below⟩
   · rw [if_neg kh]
     have k2 : (a.f0.f1 == 2) = false := beq_eq_false_iff_ne.mpr (fun h => kh (.inl h))
     have k3 : (a.f0.f1 == 3) = false := beq_eq_false_iff_ne.mpr (fun h => kh (.inr h))
     clear kh hr hwa hwb
     go_enter Tryd.func56, Tryd.ntmps56
     go_wp2_with (first | ((with_reducible refine gate_box rfl ?_); refine ev_box S ?_; clear S; intro _ _ S) | ((with_reducible refine gate_new rfl ?_); refine ev_new S 41 zA ?_; clear S; intro _ _ S) | ((with_reducible refine gate_load rfl ?_); first | refine ev_load S ?_ | refine ev_fld S ?_) | ((with_reducible refine gate_st rfl ?_); refine ev_store S ?_; clear S; intro _ S) | (go_at_call 71; (with_reducible refine (clash_any a b _ _ _ _ (HA.out.below S.out.below) (HB.out.below S.out.below) HC.out).mono ?_); rintro e w7 ⟨rfl, hb⟩; replace S := Aside0.mk (S.out.step hb); clear hb) | (go_at_call 53; (with_reducible refine (width_any b _ _ (GW.below HG.out S.out.below) (HB.out.below S.out.below)).mono ?_); rintro e w7 ⟨rfl, hb⟩; replace S := Aside0.mk (S.out.step hb); clear hb) | (go_at_call 64; (with_reducible refine (clone_any a _ _ (HA.out.below S.out.below) hl).mono ?_); rintro e w7 ⟨v, rfl, hR, hb⟩; obtain ⟨Ao, co, rfl⟩ := hR.slice; replace S := Aside0.mk (S.out.addOp hb hR); clear hb hR))
     exact bodyPost_ret (results_ct rfl _ _ _ 41 _ (0, 0) _ rfl (S.out.at_ 0 rfl) Tryd.underlying41 rfl (by kernel_rfl)) rfl ⟨_, rfl, S.out.now.2, S.out.below⟩
end Go.Proofs.YtloccjkcmlkifaaDoor
end

section
/- What the document finds of ranges behind an insert is what span.Through makes of them; an include of what is right is right. -/
namespace Go.Proofs.YtloccjkcmlkifaaDoor
open Go.RowKit Go.Proofs.YtloccjkcmlkifaaDoor.PAll Go.Proofs.YtloccjkcmlkifaaDoorW.PrintWords

def NrmB (B : Int) : Int → List S94 → Prop
 | _, [] => True
 | p, r :: t => p < r.f0 ∧ r.f0 < r.f1 ∧ r.f1 ≤ B ∧ NrmB B r.f1 t
theorem NrmB.mono {B p q : Int} : ∀ {l : List S94}, NrmB B p l → q ≤ p → NrmB B q l
 | [], _, _ => trivial
 | _ :: _, h, hq => ⟨by have := h.1; omega, h.2⟩
theorem NrmB.gap {B p : Int} : ∀ {l : List S94}, NrmB B p l → Gap l
 | [], _ => trivial
 | [_], h => h.2.1
 | _ :: s :: t, h => ⟨h.2.1, h.2.2.2.1, NrmB.gap (l := s :: t) h.2.2.2⟩
theorem NrmB.nrm {B p : Int} : ∀ {l : List S94}, NrmB B p l → (∀ r ∈ l, r.f1 ≤ 1048576) → Nrm p l
 | [], _, _ => trivial
 | r :: t, h, hb => ⟨h.1, h.2.1, hb r (by simp), NrmB.nrm h.2.2.2 (fun s hs => hb s (by simp [hs]))⟩
theorem NrmB.le_last {B p : Int} : ∀ {l : List S94}, NrmB B p l → ∀ r ∈ l, r.f1 ≤ lastHi l
 | [r], _, s, hs => by
  obtain rfl : s = r := by simpa using hs
  exact Int.le_refl _
 | r :: u :: t, h, s, hs => by
  have e : lastHi (r :: u :: t) = lastHi (u :: t) := rfl
  rw [e]
  rcases List.mem_cons.1 hs with rfl | hs
  · have h1 := NrmB.le_last (l := u :: t) h.2.2.2 u (by simp)
    have h2 := h.2.2.2.1
    have h3 := h.2.2.2.2.1
    omega
  · exact NrmB.le_last (l := u :: t) h.2.2.2 s hs
theorem thrS_nrm (p n : Int) (hn : 1 ≤ n) : ∀ (l : List S94) (x : Int), Nrm x l → NrmB (1048576 + n) (sh p n x) (thrS p n l)
 | [], _, _ => trivial
 | r :: t, x, h => by
  obtain ⟨h1, h2, h3, h4⟩ := h
  have ih := thrS_nrm p n hn t r.f1 h4
  have e : thrS p n (r :: t) = sp p n r ++ thrS p n t := rfl
  rw [e]
  unfold sp
  by_cases c1 : r.f1 ≤ p
  · rw [if_pos c1]
    have : sh p n r.f1 = r.f1 := if_pos c1
    rw [this] at ih
    exact ⟨by unfold sh; rw [if_pos (by omega)]; exact h1, h2, by omega, ih⟩
  · have : sh p n r.f1 = r.f1 + n := if_neg c1
    rw [this] at ih
    rw [if_neg c1]
    by_cases c2 : p ≤ r.f0
    · rw [if_pos c2]
      refine ⟨?_, show r.f0 + n < r.f1 + n by omega, show r.f1 + n ≤ 1048576 + n by omega, ih⟩
      show sh p n x < r.f0 + n
      unfold sh; split <;> omega
    · rw [if_neg c2]
      refine ⟨?_, show r.f0 < p by omega, show p ≤ 1048576 + n by omega, show p < p + n by omega, show p + n < r.f1 + n by omega, show r.f1 + n ≤ 1048576 + n by omega, ih⟩
      show sh p n x < r.f0
      unfold sh; rw [if_pos (by omega)]; exact h1
theorem thrS_ne (p n : Int) {l : List S94} (h : 0 < l.length) : 0 < (thrS p n l).length := by
 cases l with
 | nil => simp at h
 | cons r t =>
  have e : thrS p n (r :: t) = sp p n r ++ thrS p n t := rfl
  rw [e, List.length_append]
  have : 0 < (sp p n r).length := by
   unfold sp
   split
   · simp
   · split <;> simp
  omega
theorem lastHi_snoc (l : List S94) (r : S94) : lastHi (l ++ [r]) = r.f1 := by
 unfold lastHi
 rw [List.getD_eq_getElem?_getD]
 simp
theorem thr_last (p n : Int) {l : List S94} (h : 0 < l.length) : lastHi (thrS p n l) = sh p n (lastHi l) := by
 obtain ⟨l', r, rfl⟩ := (List.eq_nil_or_concat l).resolve_left (fun e => by rw [e] at h; simp at h)
 rw [List.concat_eq_append, lastHi_snoc]
 have e : thrS p n (l' ++ [r]) = thrS p n l' ++ sp p n r := by simp [thrS]
 rw [e]
 unfold sp sh
 by_cases c1 : r.f1 ≤ p
 · rw [if_pos c1, if_pos c1, lastHi_snoc]
 · rw [if_neg c1, if_neg c1]
   by_cases c2 : p ≤ r.f0
   · rw [if_pos c2, lastHi_snoc]
   · rw [if_neg c2]
     have : thrS p n l' ++ [⟨r.f0, p⟩, ⟨p + n, r.f1 + n⟩] = (thrS p n l' ++ [(⟨r.f0, p⟩ : S94)]) ++ [(⟨p + n, r.f1 + n⟩ : S94)] := by simp
     rw [this, lastHi_snoc]
theorem cov_thr (a : S41) (p n : Int) (hh : lastHi a.f3 ≤ 1048576) : covE a (thrS p n a.f3) = rangedE a (thrE a.f3 p n) := by
 unfold covE thrE
 by_cases h0 : 0 < a.f3.length
 · have h1 := thrS_ne p n h0
   rw [thr_last p n h0]
   by_cases c : p < lastHi a.f3 ∧ 1048576 < lastHi a.f3 + n
   · rw [if_pos ⟨h1, by unfold sh; rw [if_neg (by omega)]; exact c.2⟩, if_pos ⟨h0, c⟩]
     rfl
   · rw [if_neg (show ¬ (0 < (thrS p n a.f3).length ∧ 1048576 < sh p n (lastHi a.f3)) from fun q => c (by
      have := q.2
      unfold sh at this
      split at this <;> omega)), if_neg (show ¬ (0 < a.f3.length ∧ p < lastHi a.f3 ∧ 1048576 < lastHi a.f3 + n) from fun q => c q.2)]
     unfold bnd
     by_cases c3 : 32768 < (thrS p n a.f3).length
     · rw [if_pos c3, if_pos c3]; rfl
     · rw [if_neg c3, if_neg c3]; rfl
 · have e : a.f3 = [] := List.eq_nil_of_length_eq_zero (by omega)
   rw [e]
   rfl

theorem am_step (k : Nat) (row : List S154) (who lo hi seen : Int) (out : List S94) (i : Nat) (h : i < row.length) (hl : row.length ≤ 100) (s : S154) (hs : row.getD i z154 = s)
 (hb : 0 ≤ seen ∧ seen ≤ 16777216 ∧ 0 ≤ lo ∧ lo ≤ 16777216 ∧ 0 ≤ hi ∧ hi ≤ 16777216 ∧ 0 ≤ s.f1 ∧ s.f1 ≤ 16777216 ∧ 0 ≤ s.f2 ∧ s.f2 ≤ 16777216) (ho : out.length ≤ 1048576) :
 redraftref05_among.l0 (k + 1) row who lo hi out seen (i : Int) = if s.f0 = who ∧ s.f1 < hi ∧ lo < s.f2 then redraftref05_among.l0 k row who lo hi (out ++ [⟨seen + mx lo s.f1 - s.f1, seen + mn hi s.f2 - s.f1⟩]) (seen + s.f2 - s.f1) ((i + 1 : Nat) : Int)
  else redraftref05_among.l0 k row who lo hi out (seen + s.f2 - s.f1) ((i + 1 : Nat) : Int) := by
 obtain ⟨b1, b2, b3, b4, b5, b6, b7, b8, b9, b10⟩ := hb
 have e : rd_T154 row (i : Int) = s := by unfold rd_T154; rw [Int.toNat_natCast, hs]
 have q1 : (i : Int) < (row.length : Int) := by omega
 have q2 : (0 : Int) ≤ (i : Int) := by omega
 have hol : out.length < 8796093022208 := by omega
 have bm : 0 ≤ mx lo s.f1 ∧ mx lo s.f1 ≤ 16777216 := by unfold mx; split <;> omega
 have bn : 0 ≤ mn hi s.f2 ∧ mn hi s.f2 ≤ 16777216 := by unfold mn; split <;> omega
 have w1 : wrap64 (wrap64 (seen + mx lo s.f1) - s.f1) = seen + mx lo s.f1 - s.f1 := by rw [wrap_id (n := seen + mx lo s.f1) (by omega) (by omega), wrap_id (by omega) (by omega)]
 have w2 : wrap64 (wrap64 (seen + mn hi s.f2) - s.f1) = seen + mn hi s.f2 - s.f1 := by rw [wrap_id (n := seen + mn hi s.f2) (by omega) (by omega), wrap_id (by omega) (by omega)]
 have w3 : wrap64 (wrap64 (seen + s.f2) - s.f1) = seen + s.f2 - s.f1 := by rw [wrap_id (n := seen + s.f2) (by omega) (by omega), wrap_id (by omega) (by omega)]
 have w4 : wrap64 ((i : Int) + 1) = ((i + 1 : Nat) : Int) := by rw [wrap_id (by omega) (by omega)]; omega
 rw [redraftref05_among.l0, if_pos q1, if_pos q2, e, w1, w2, w3, w4]
 by_cases c1 : s.f0 = who
 · by_cases c2 : s.f1 < hi
   · by_cases c3 : lo < s.f2
     · rw [if_pos c1, if_pos c2, if_pos c3, if_pos hol, if_pos ⟨c1, c2, c3⟩]
     · rw [if_pos c1, if_pos c2, if_neg c3, if_neg (fun h => c3 h.2.2)]
   · rw [if_pos c1, if_neg c2, if_neg (fun h => c2 h.2.1)]
 · rw [if_neg c1, if_neg (fun h => c1 h.1)]
theorem among_ctx (k : Nat) (p n lo hi : Int) (hp : 0 ≤ p ∧ p ≤ 1048576) (hn : 1 ≤ n ∧ n ≤ 1048576) (h : 0 ≤ lo ∧ lo < hi ∧ hi ≤ 1048576) : redraftref05_among.f (k + 4) (ctxWith 2 p n) 0 lo hi = some (sp p n ⟨lo, hi⟩) := by
 unfold redraftref05_among.f
 rw [show (0 : Int) = ((0 : Nat) : Int) from rfl]
 have hm1 : mn hi p = if hi ≤ p then hi else p := by unfold mn; split <;> split <;> omega
 have hm2 : mx lo p = if lo < p then p else lo := rfl
 have hm3 : mn hi 2097152 = hi := by unfold mn; rw [if_neg (by omega)]
 have hm4 : mx lo 0 = lo := by unfold mx; split <;> omega
 by_cases h0 : p > 0
 · have hc : ctxWith 2 p n = [⟨0, 0, p⟩, ⟨2, 0, n⟩, ⟨0, p, 2097152⟩] := by unfold ctxWith; rw [if_pos h0]; rfl
   have last : ∀ (out : List S94), out.length ≤ 2 → redraftref05_among.l0 (k + 3) (ctxWith 2 p n) ((0 : Nat) : Int) lo hi out p ((1 : Nat) : Int) = some (if p < hi then out ++ [⟨mx lo p + n, hi + n⟩] else out) := fun out ho => by
    rw [hc, show k + 3 = (k + 2) + 1 from rfl, am_step (k + 2) _ _ lo hi p out 1 (by simp) (by simp) ⟨2, 0, n⟩ rfl (by simp; omega) (by omega), if_neg (fun h => by simp at h)]
    simp only
    rw [show k + 2 = (k + 1) + 1 from rfl, am_step (k + 1) _ _ lo hi _ out 2 (by simp) (by simp) ⟨0, p, 2097152⟩ rfl (by simp; omega) (by omega)]
    by_cases c : p < hi
    · rw [if_pos ⟨rfl, c, by show lo < 2097152; omega⟩, if_pos c]
      simp only [hm3]
      rw [redraftref05_among.l0, if_neg (by simp)]
      congr 4
      · rw [show p + n - 0 + mx lo p - p = mx lo p + n by omega]
      · omega
    · rw [if_neg (fun h => c h.2.1), if_neg c, redraftref05_among.l0, if_neg (by simp)]
   rw [show k + 4 = (k + 3) + 1 from rfl]
   rw [show redraftref05_among.l0 (k + 3 + 1) (ctxWith 2 p n) ((0 : Nat) : Int) lo hi [] ((0 : Nat) : Int) ((0 : Nat) : Int) = _ from by
    rw [hc, am_step (k + 3) _ _ lo hi _ [] 0 (by simp) (by simp) ⟨0, 0, p⟩ rfl (by simp; omega) (by simp)]]
   simp only
   rw [← hc, show ((0 : Nat) : Int) + p - 0 = p by omega, last _ (by simp), last _ (by simp), hm4]
   unfold sp
   by_cases c1 : hi ≤ p
   · rw [if_pos ⟨rfl, by omega, by omega⟩, if_neg (show ¬ p < hi by omega), if_pos (show hi ≤ p from c1), hm1, if_pos c1]
     simp
   · by_cases c2 : p ≤ lo
     · rw [if_neg (fun q => by have := q.2.2; omega), if_pos (show p < hi by omega), if_neg c1, if_pos (show p ≤ lo from c2), hm2, if_neg (show ¬ lo < p by omega)]
       rfl
     · rw [if_pos ⟨rfl, by omega, by omega⟩, if_pos (show p < hi by omega), if_neg c1, if_neg (show ¬ p ≤ lo from c2), hm1, if_neg c1, hm2, if_pos (show lo < p by omega)]
       simp
 · obtain rfl : p = 0 := by omega
   have hc : ctxWith 2 0 n = [⟨2, 0, n⟩, ⟨0, 0, 2097152⟩] := rfl
   rw [hc, show k + 4 = (k + 3) + 1 from rfl, am_step (k + 3) _ _ lo hi _ [] 0 (by simp) (by simp) ⟨2, 0, n⟩ rfl (by simp; omega) (by simp), if_neg (fun h => by simp at h)]
   simp only
   rw [show k + 3 = (k + 2) + 1 from rfl, am_step (k + 2) _ _ lo hi _ [] 1 (by simp) (by simp) ⟨0, 0, 2097152⟩ rfl (by simp; omega) (by simp), if_pos ⟨rfl, by show (0 : Int) < hi; omega, by show lo < 2097152; omega⟩]
   simp only [hm3, hm4]
   rw [show k + 2 = (k + 1) + 1 from rfl, redraftref05_among.l0, if_neg (by simp)]
   unfold sp
   rw [if_neg (show ¬ hi ≤ 0 by omega), if_pos (show (0 : Int) ≤ lo from h.1)]
   simp only [List.nil_append]
   congr 3
   all_goals simp
   all_goals omega
end Go.Proofs.YtloccjkcmlkifaaDoor
end
