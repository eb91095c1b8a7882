/- XformEarlierLeft_card, part 43. -/
import Derived.Test.YtloccjkcmlkifaaDoorQEl20
import Derived.Test.YtloccjkcmlkifaaDoorQEl18
import Derived.Test.YtloccjkcmlkifaaDoorQEl21
import Derived.Test.YtloccjkcmlkifaaDoorQEl22
import Derived.Test.YtloccjkcmlkifaaDoorQEl24
import Derived.Test.YtloccjkcmlkifaaDoorQEl6
import Derived.Test.YtloccjkcmlkifaaDoorQEl7
import Derived.WalkKit
import Derived.Deep.MidRow
import Derived.Test.YtloccjkcmlkifaaDoorProg
import Derived.Test.YtloccjkcmlkifaaDoorQEl3
import Derived.Lib.QuoteBits
import Derived.Laws.BitsAllLaws
import Derived.Test.YtloccjkcmlkifaaDoorQEl29
import Derived.Test.YtloccjkcmlkifaaDoorQEl34
import Derived.Test.YtloccjkcmlkifaaDoorQEl35
import Derived.Test.YtloccjkcmlkifaaDoorQEl30
import Derived.Test.YtloccjkcmlkifaaDoorQEl1
import Derived.Test.YtloccjkcmlkifaaDoorQEl0
import Derived.Test.YtloccjkcmlkifaaDoorQEl36
import Derived.Test.YtloccjkcmlkifaaDoorQEl38

section
/- The document's way of reading a rune, and the program's: the same. -/
namespace Go.Proofs.YtloccjkcmlkifaaDoor
open Go.RowKit Go.Proofs.YtloccjkcmlkifaaDoor.PAll Go.Proofs.YtloccjkcmlkifaaDoorW.PrintWords

theorem wrap_id {n : Int} (h0 : -9223372036854775808 ≤ n) (h1 : n ≤ 9223372036854775807) : wrap64 n = n := by unfold wrap64; omega
def gb (s : ByteArray) (i : Nat) : Nat := (s.get! i).toNat
end Go.Proofs.YtloccjkcmlkifaaDoor
end

section
/- The document's Places, of parts that lie in order: what touches is joined. -/
namespace Go.Proofs.YtloccjkcmlkifaaDoor
open Go.RowKit Go.Proofs.YtloccjkcmlkifaaDoor.PAll Go.Proofs.YtloccjkcmlkifaaDoorW.PrintWords

def Wk : List S94 → Prop
 | [] => True
 | [r] => r.f0 < r.f1
 | r :: s :: t => r.f0 < r.f1 ∧ r.f1 ≤ s.f0 ∧ Wk (s :: t)
theorem Wk.head {r : S94} {t : List S94} (h : Wk (r :: t)) : r.f0 < r.f1 := by
 cases t with
 | nil => exact h
 | cons s t => exact h.1
theorem Wk.tail {r : S94} {t : List S94} (h : Wk (r :: t)) : Wk t := by
 cases t with
 | nil => trivial
 | cons s t => exact h.2.2
theorem Wk.far {r : S94} : ∀ {t : List S94}, Wk (r :: t) → ∀ s ∈ t, r.f1 ≤ s.f0
 | [], _, _, hs => by cases hs
 | u :: t, h, s, hs => by
  rcases List.mem_cons.1 hs with rfl | hs
  · exact h.2.1
  · have := Wk.far (h.2.2) s hs
    have := Wk.head h.2.2
    have := h.2.1
    omega
theorem Wk.at_ : ∀ {l : List S94}, Wk l → ∀ i j (hi : i < l.length) (hj : j < l.length), i < j → l[i].f1 ≤ l[j].f0
 | r :: t, h, 0, j + 1, _, hj, _ => h.far _ (List.getElem_mem _)
 | r :: t, h, i + 1, j + 1, hi, hj, hij => Wk.at_ h.tail i j (by simpa using hi) (by simpa using hj) (by omega)
end Go.Proofs.YtloccjkcmlkifaaDoor
end

section
/- The document's Places of parts in order: the loops. -/
namespace Go.Proofs.YtloccjkcmlkifaaDoor
open Go.RowKit Go.Proofs.YtloccjkcmlkifaaDoor.PAll Go.Proofs.YtloccjkcmlkifaaDoorW.PrintWords

def Gap : List S94 → Prop
 | [] => True
 | [r] => r.f0 < r.f1
 | r :: s :: t => r.f0 < r.f1 ∧ r.f1 < s.f0 ∧ Gap (s :: t)
end Go.Proofs.YtloccjkcmlkifaaDoor
end

section
/- A load of a wide record, as one step of a walk: its cells are told one by one. -/
namespace Go.Proofs.YtloccjkcmlkifaaDoor
open Go.RowKit

def atL (w : World) (ad : Addr) : Nat → List Value → Prop
 | _, [] => True
 | j, v :: r => w.cell? (ad.add j) = some v ∧ atL w ad (j + 1) r
theorem atL_get {w : World} {ad : Addr} : ∀ {cs : List Value} {o : Nat}, atL w ad o cs → ∀ j v, cs[j]? = some v → w.cell? (ad.add (o + j)) = some v
 | [], _, _, j, v, h => by simp at h
 | x :: r, o, ⟨h0, hr⟩, 0, v, h => by
  simp only [List.getElem?_cons_zero, Option.some.injEq] at h
  subst h; exact h0
 | x :: r, o, ⟨h0, hr⟩, j + 1, v, h => by
  simp only [List.getElem?_cons_succ] at h
  have := atL_get hr j v h
  rw [show o + 1 + j = o + (j + 1) by omega] at this
  exact this
theorem run_load_wide {P : Program} (w : World) (ad : Addr) (ty : TypeId) (cs : List Value) (d : TypeDesc) (hc : atL w ad 0 cs)
 (hu : P.underlying ty = some d) (hd : (match d with | .struct _ | .array _ _ => true | _ => false) = true) (hi : (P.info? ty).map (·.size) = some cs.length) :
 (loadVar ty ad).run P w = .ok (.agg cs.toArray) w := by
 have hl : (loadCells ad cs.length).run P w = .ok cs.toArray w :=
  run_loadCells_list (P := P) w ad cs (fun j v hv => by
   have := atL_get hc j v hv
   rw [Nat.zero_add] at this
   exact this)
 cases hq : P.info? ty with
 | none => simp [hq] at hi
 | some i =>
  have hs : i.size = cs.length := by simpa [hq] using hi
  have hagg : (isAgg ty).run P w = .ok true w := by
   unfold isAgg
   rw [Sem.run_bind, run_underlying hu w]
   cases d <;> simp_all
  simp [loadVar, Sem.run_bind, hagg, sizeOf, typeInfo, hq, hs, hl]
theorem atL_mk {w : World} {ad : Addr} : ∀ {cs : List Value} {o : Nat}, (∀ j v, cs[j]? = some v → w.cell? (ad.add (o + j)) = some v) → atL w ad o cs
 | [], _, _ => trivial
 | x :: r, o, h => ⟨h 0 x rfl, atL_mk fun j v hj => by
  have := h (j + 1) v (by simpa using hj)
  rw [show o + 1 + j = o + (j + 1) by omega]
  exact this⟩
theorem atL_blk {w : World} {g : Nat} {t : TypeId} {cs : List Value} (h : w.heap[g]? = some (.cells cs.toArray t (0, 0))) : atL w ⟨g, 0, none⟩ 0 cs :=
 atL_mk fun j v hj => by
  have hadd : (⟨g, 0, none⟩ : Addr).add (0 + j) = ⟨g, j, none⟩ := by unfold Addr.add; split <;> simp_all
  rw [hadd, Go.Proofs.YtloccjkcmlkifaaDoorW.PrintWords.blk_cell h]
  simpa using hj
theorem blk_setCells {g : Nat} {t : TypeId} : ∀ (vs : List Value) (pre old : List Value) (W : World), W.heap[g]? = some (.cells (pre ++ old).toArray t (0, 0)) → old.length = vs.length →
 (W.setCells g pre.length vs).heap[g]? = some (.cells (pre ++ vs).toArray t (0, 0))
 | [], pre, old, W, h, hl => by
  obtain rfl : old = [] := by simpa using hl
  exact h
 | _ :: _, _, [], _, _, hl => by simp at hl
 | v :: r, pre, u :: q, W, h, hl => by
  have h1 := Go.Proofs.YtloccjkcmlkifaaDoorW.PrintWords.blk_put h pre.length v (cs' := ((pre ++ [v]) ++ q).toArray) (by simp)
  have := blk_setCells r (pre ++ [v]) q (W.setCell ⟨g, pre.length, none⟩ v) h1 (by simpa using hl)
  simpa [World.setCells] using this
theorem below_setCells {g : Nat} {w0 : World} : ∀ (vs : List Value) (o : Nat) (W : World), Below w0.heap.size w0 W → w0.heap.size ≤ g → Below w0.heap.size w0 (W.setCells g o vs)
 | [], _, _, h, _ => h
 | _ :: r, o, _, h, hg => below_setCells r (o + 1) _ (h.setCell hg _) hg
end Go.Proofs.YtloccjkcmlkifaaDoor
end

section
/- The state of a walk as one fact: what is own and written (boxes), what else is known, and that nothing elder has changed. -/
namespace Go.Proofs.YtloccjkcmlkifaaDoor
open Go.RowKit Go.Proofs.YtloccjkcmlkifaaDoorW.PrintWords

abbrev Bx := Nat × TypeId × Array Value
structure St (w0 w : World) (bs : List Bx) (F : World → Prop) : Prop where
 below : Below w0.heap.size w0 w
 box : ∀ b ∈ bs, w.heap[b.1]? = some (.cells b.2.2 b.2.1 (0, 0)) ∧ w0.heap.size ≤ b.1
 nd : (bs.map (·.1)).Nodup
 foot : Foot F w (fun k => k ∉ bs.map (·.1))
namespace St
variable {w0 w w' : World} {bs bs' : List Bx} {F F' F2 : World → Prop} {g : Nat} {t : TypeId} {cs cs' : Array Value}
theorem now (S : St w0 w bs F) : F w := S.foot.now
theorem init (w : World) (h : Foot F w (fun _ => True)) : St w w [] F := ⟨Below.refl _ _, by simp, by simp, h.mono (by simp)⟩
theorem weak (S : St w0 w bs F) (h : ∀ W, F W → F' W) : St w0 w bs F' := ⟨S.below, S.box, S.nd, S.foot.imp h⟩
theorem lt (S : St w0 w bs F) : ∀ b ∈ bs, b.1 < w.heap.size := fun b hb => blk_lt (S.box b hb).1
theorem step (S : St w0 w bs F) (hb : Below w.heap.size w w') : St w0 w' bs F :=
 ⟨below_then S.below S.below.size hb, fun b hm => ⟨blk_below (S.box b hm).1 hb, (S.box b hm).2⟩, S.nd, S.foot.step fun k _ hlt => hb.block k hlt⟩
theorem drewN (S : St w0 w bs F) (n : Nat) : St w0 (w.drewN n) bs F := S.step (pw_below_drewN (Below.refl _ _) n)
theorem drew (S : St w0 w bs F) : St w0 w.drew bs F := S.step (below_drew (Below.refl _ _))
theorem add (S : St w0 w bs F) (hb : Below w.heap.size w w') (h2 : Foot F2 w' (fun k => w.heap.size ≤ k)) : St w0 w' bs (fun W => F W ∧ F2 W) :=
 have S' := S.step hb
 ⟨S'.below, S'.box, S'.nd, fun W' hW => ⟨S'.foot W' hW, (h2.mono (fun k hk hm => by
  obtain ⟨b, hb', rfl⟩ := List.mem_map.1 hm
  exact absurd (S.lt b hb') (by omega)) : Foot F2 w' (fun k => k ∉ bs.map (·.1))) W' hW⟩⟩
theorem push (S : St w0 w bs F) (hb : Below w.heap.size w w') (hn : w'.heap[g]? = some (.cells cs t (0, 0))) (hg : g = w.heap.size) : St w0 w' ((g, t, cs) :: bs) F :=
 have S' := S.step hb
 ⟨S'.below, fun b hm => by
  rcases List.mem_cons.1 hm with rfl | hm
  · exact ⟨hn, by rw [hg]; exact S.below.size⟩
  · exact S'.box b hm, by
  rw [List.map_cons, List.nodup_cons]
  refine ⟨fun hm => ?_, S.nd⟩
  obtain ⟨b, hb', e⟩ := List.mem_map.1 hm
  have := S.lt b hb'
  have e' : b.1 = g := e
  omega, (S.foot.old hb).mono fun k hk hm => by
   rcases List.mem_cons.1 hm with h | h
   · have e' : k = g := h
     have := hk.2
     omega
   · exact hk.1 h⟩
theorem at_ (S : St w0 w bs F) (i : Nat) (e : bs[i]? = some (g, t, cs)) : w.heap[g]? = some (.cells cs t (0, 0)) := (S.box _ (List.mem_of_getElem? e)).1
theorem ge (S : St w0 w bs F) (i : Nat) (e : bs[i]? = some (g, t, cs)) : w0.heap.size ≤ g := (S.box _ (List.mem_of_getElem? e)).2
theorem drop (S : St w0 w bs F) (h : bs'.Sublist bs) : St w0 w bs' F :=
 ⟨S.below, fun b hm => S.box b (h.subset hm), (h.map _).nodup S.nd, S.foot.mono fun _ hk hm => hk ((h.map _).subset hm)⟩
theorem map_set (i : Nat) (e : bs[i]? = some (g, t, cs)) : (bs.set i (g, t, cs')).map (·.1) = bs.map (·.1) := by
 rw [List.map_set]
 have : (bs.map (·.1))[i]? = some g := by rw [List.getElem?_map, e]; rfl
 obtain ⟨hi, he⟩ := List.getElem?_eq_some_iff.1 this
 show (bs.map (·.1)).set i g = _
 rw [← he]; exact List.set_getElem_self hi
theorem put (S : St w0 w bs F) (i : Nat) (e : bs[i]? = some (g, t, cs)) (hb : Below w0.heap.size w0 w') (hg : w'.heap[g]? = some (.cells cs' t (0, 0))) (ho : ∀ k, k ≠ g → w'.heap[k]? = w.heap[k]?) : St w0 w' (bs.set i (g, t, cs')) F := by
 have hi : i < bs.length := (List.getElem?_eq_some_iff.1 e).1
 have hnd : ∀ j b, bs[j]? = some b → j ≠ i → b.1 ≠ g := fun j b hj hne hq => by
  have h1 : (bs.map (·.1))[j]? = some g := by rw [List.getElem?_map, hj]; simp [hq]
  have h2 : (bs.map (·.1))[i]? = some g := by rw [List.getElem?_map, e]; rfl
  have hjl : j < (bs.map (·.1)).length := (List.getElem?_eq_some_iff.1 h1).1
  have hil : i < (bs.map (·.1)).length := (List.getElem?_eq_some_iff.1 h2).1
  rcases Nat.lt_or_gt_of_ne hne with hlt | hlt
  · exact List.pairwise_iff_getElem.1 S.nd j i hjl hil hlt ((List.getElem?_eq_some_iff.1 h1).2.trans (List.getElem?_eq_some_iff.1 h2).2.symm)
  · exact List.pairwise_iff_getElem.1 S.nd i j hil hjl hlt ((List.getElem?_eq_some_iff.1 h2).2.trans (List.getElem?_eq_some_iff.1 h1).2.symm)
 refine ⟨hb, fun b hm => ?_, by rw [map_set i e]; exact S.nd, ?_⟩
 · obtain ⟨j, hj⟩ := List.mem_iff_getElem?.1 hm
   rw [List.getElem?_set] at hj
   by_cases hij : i = j
   rw [if_pos hij, if_pos hi] at hj
   · obtain rfl := Option.some.inj hj
     exact ⟨hg, S.ge _ e⟩
   · rw [if_neg hij] at hj
     have hm' := List.mem_of_getElem? hj
     exact ⟨(ho _ (hnd j b hj (fun h => hij h.symm))).trans (S.box b hm').1, (S.box b hm').2⟩
 · rw [map_set i e]
   exact S.foot.step fun k hk _ => ho k (fun h => hk (h ▸ (List.mem_map.2 ⟨_, List.mem_of_getElem? e, rfl⟩)))
end St
theorem below_setCell0 {w0 w : World} {g : Nat} (h : Below w0.heap.size w0 w) (hg : w0.heap.size ≤ g) (j : Nat) (v : Value) : Below w0.heap.size w0 (w.setCell ⟨g, j, none⟩ v) := h.setCell hg _
theorem setCells_far {g : Nat} : ∀ (vs : List Value) (o : Nat) (W : World) (k : Nat), k ≠ g → (W.setCells g o vs).heap[k]? = W.heap[k]?
 | [], _, _, _, _ => rfl
 | v :: r, o, W, k, hk => by
  show ((W.setCell ⟨g, o, none⟩ v).setCells g (o + 1) r).heap[k]? = _
  rw [setCells_far r (o + 1) _ k hk]
  exact Below.heap_setCell W ⟨g, o, none⟩ v k hk

theorem ix0 {b0 : Bx} {l : List Bx} : (b0 :: l)[0]? = some b0 := rfl
theorem ix1 {b0 b1 : Bx} {l : List Bx} : (b0 :: b1 :: l)[1]? = some b1 := rfl
theorem ix2 {b0 b1 b2 : Bx} {l : List Bx} : (b0 :: b1 :: b2 :: l)[2]? = some b2 := rfl
theorem ix3 {b0 b1 b2 b3 : Bx} {l : List Bx} : (b0 :: b1 :: b2 :: b3 :: l)[3]? = some b3 := rfl
theorem ix4 {b0 b1 b2 b3 b4 : Bx} {l : List Bx} : (b0 :: b1 :: b2 :: b3 :: b4 :: l)[4]? = some b4 := rfl
theorem ix5 {b0 b1 b2 b3 b4 b5 : Bx} {l : List Bx} : (b0 :: b1 :: b2 :: b3 :: b4 :: b5 :: l)[5]? = some b5 := rfl
theorem ix6 {b0 b1 b2 b3 b4 b5 b6 : Bx} {l : List Bx} : (b0 :: b1 :: b2 :: b3 :: b4 :: b5 :: b6 :: l)[6]? = some b6 := rfl
theorem ix7 {b0 b1 b2 b3 b4 b5 b6 b7 : Bx} {l : List Bx} : (b0 :: b1 :: b2 :: b3 :: b4 :: b5 :: b6 :: b7 :: l)[7]? = some b7 := rfl
section
variable {P : Program} {ops : Array Oper} {rest : List Oper} {o : Oper} {a : Act} {Q : Exit → Act → World → Prop} {w0 W : World} {bs : List Bx} {F : World → Prop} {g : Nat} {t : TypeId} {cs : Array Value}
theorem ev_run {W1 : World} {v : Value} (hw : Region.wanted o (yielded ops a.tmps) = true) (hrun : (execOp a.eval o).run P W = .ok (.value v) W1) (h : wpList P ops Q rest (a.put o.dst v) W1) : wpList P ops Q (o :: rest) a W := by
 refine wpList_step fun K hK => ?_
 rw [if_pos hw]
 unfold Oper.wp
 rw [hrun]
 exact hK _ _ h
theorem ev_skip {W1 : World} (hw : Region.wanted o (yielded ops a.tmps) = true) (hN : o.dst = none) (hrun : (execOp a.eval o).run P W = .ok .skip W1) (h : wpList P ops Q rest a W1) : wpList P ops Q (o :: rest) a W := by
 refine wpList_step fun K hK => ?_
 rw [if_pos hw]
 unfold Oper.wp
 rw [hrun]
 show K (a.put o.dst undef) W1
 rw [hN]
 exact hK _ _ h
theorem wanted_plain {y : Nat → Option Bool} (h : o.guard = none) : Region.wanted o y = true := by unfold Region.wanted; rw [h]
theorem wanted_on {y : Nat → Option Bool} {j : Nat} {b : Bool} (h : o.guard = some (j, b)) (hy : y j = some b) : Region.wanted o y = true := by unfold Region.wanted; rw [h]; simp [hy]
theorem gate_box {t : TypeId} {x : Operand} (_ho : o.op = .box t x) (h : wpList P ops Q (o :: rest) a W) : wpList P ops Q (o :: rest) a W := h
theorem gate_new {t : TypeId} (_ho : o.op = .alloc t) (h : wpList P ops Q (o :: rest) a W) : wpList P ops Q (o :: rest) a W := h
theorem gate_load {t : TypeId} {x : Operand} (_ho : o.op = .load t x) (h : wpList P ops Q (o :: rest) a W) : wpList P ops Q (o :: rest) a W := h
theorem gate_st {t : TypeId} {x y : Operand} (_ho : o.op = .store t x y) (h : wpList P ops Q (o :: rest) a W) : wpList P ops Q (o :: rest) a W := h
theorem ev_box (S : Aside0 (St w0 W bs F)) {t : TypeId} {x : Operand} {cs : Array Value} {N : Tmp}
 (h : ∀ g w', Aside0 (St w0 w' ((g, t, cs) :: bs) F) → wpList P ops Q rest (a.put (some N) (.pointer (some ⟨g, 0, none⟩))) w')
 (ho : o.op = .box t x := by rfl) (hx : a.eval x = .agg cs := by rfl) (hd : o.dst = some N := by rfl) (hw : Region.wanted o (yielded ops a.tmps) = true := by first | exact wanted_plain rfl | (refine wanted_on rfl ?_; simp [yielded]))
 (hrun : (execOp a.eval o).run P W = .ok (.value (.pointer (some ⟨W.heap.size, 0, none⟩))) (W.alloc (.cells cs t (0, 0))) := by first | (go_simp; done) | (go_simp; rfl)) : wpList P ops Q (o :: rest) a W :=
 have _ := ho; have _ := hx
 ev_run hw hrun (by rw [hd]; exact h _ _ ⟨S.out.push (below_alloc (Below.refl _ _) _) (blk_new W _) rfl⟩)
theorem ev_new (S : Aside0 (St w0 W bs F)) (t : TypeId) (cs : Array Value) {N : Tmp}
 (h : ∀ g w', Aside0 (St w0 w' ((g, t, cs) :: bs) F) → wpList P ops Q rest (a.put (some N) (.pointer (some ⟨g, 0, none⟩))) w')
 (ho : o.op = .alloc t := by rfl) (hd : o.dst = some N := by rfl) (hw : Region.wanted o (yielded ops a.tmps) = true := by first | exact wanted_plain rfl | (refine wanted_on rfl ?_; simp [yielded]))
 (hrun : (execOp a.eval o).run P W = .ok (.value (.pointer (some ⟨W.heap.size, 0, none⟩))) (W.alloc (.cells cs t (0, 0))) := by first | (go_simp; done) | (go_simp; rfl)) : wpList P ops Q (o :: rest) a W :=
 have _ := ho
 ev_run hw hrun (by rw [hd]; exact h _ _ ⟨S.out.push (below_alloc (Below.refl _ _) _) (blk_new W _) rfl⟩)
theorem ev_load (S : Aside0 (St w0 W bs F)) {i : Nat} {N : Tmp} {ty : TypeId} {x : Operand} {d : TypeDesc}
 (h : wpList P ops Q rest (a.put (some N) (.agg cs)) W)
 (ho : o.op = .load ty x := by rfl) (hx : a.eval x = .pointer (some ⟨g, 0, none⟩) := by rfl) (e : bs[i]? = some (g, t, cs) := by first | exact ix0 | exact ix1 | exact ix2 | exact ix3 | exact ix4 | exact ix5 | exact ix6 | exact ix7) (hd : o.dst = some N := by rfl)
 (hw : Region.wanted o (yielded ops a.tmps) = true := by first | exact wanted_plain rfl | (refine wanted_on rfl ?_; first | (simp [yielded]; done) | rfl)) (hu : P.underlying ty = some d := by first | exact Tryd.underlying41 | exact Tryd.underlying100) (hdd : (match d with | .struct _ | .array _ _ => true | _ => false) = true := by rfl) (hi : (P.info? ty).map (·.size) = some cs.size := by kernel_rfl) : wpList P ops Q (o :: rest) a W := by
 have hc : atL W ⟨g, 0, none⟩ 0 cs.toList := atL_blk (by simpa using S.out.at_ i e)
 have hr := run_load_wide (P := P) W ⟨g, 0, none⟩ ty cs.toList d hc hu hdd (by simpa using hi)
 refine ev_run (v := .agg cs) hw ?_ (by rw [hd]; exact h)
 unfold execOp
 simp only [ho, hx, Instr.loadAt, Instr.sureAddr, Sem.run_bind, Sem.run_pure, Result.andThen_ok, hr]
theorem ev_fld (S : Aside0 (St w0 W bs F)) {i : Nat} {N j : Nat} {ty : TypeId} {x : Operand} {v : Value}
 (h : wpList P ops Q rest (a.put (some N) v) W)
 (ho : o.op = .load ty x := by rfl) (hx : a.eval x = .pointer (some ⟨g, j, none⟩) := by rfl) (e : bs[i]? = some (g, t, cs) := by first | exact ix0 | exact ix1 | exact ix2 | exact ix3 | exact ix4 | exact ix5 | exact ix6 | exact ix7) (hd : o.dst = some N := by rfl)
 (hw : Region.wanted o (yielded ops a.tmps) = true := by first | exact wanted_plain rfl | (refine wanted_on rfl ?_; first | (simp [yielded]; done) | rfl))
 (hrun : (∀ k, W.cell? ⟨g, k, none⟩ = cs[k]?) → (execOp a.eval o).run P W = .ok (.value v) W := by intro hc_; first | (go_simp; done) | (go_simp; rfl)) : wpList P ops Q (o :: rest) a W :=
 have _ := ho; have _ := hx
 ev_run hw (hrun (blk_cell (S.out.at_ i e))) (by rw [hd]; exact h)
theorem ev_store (S : Aside0 (St w0 W bs F)) {i : Nat} {p : Tmp} {v : Operand} {c' : Array Value}
 (h : ∀ w', Aside0 (St w0 w' (bs.set i (g, t, c')) F) → wpList P ops Q rest a w')
 (ho : o.op = .store t (.tmp p) v := by rfl) (hp : a.eval (.tmp p) = .pointer (some ⟨g, 0, none⟩) := by rfl) (e : bs[i]? = some (g, t, cs) := by first | exact ix0 | exact ix1 | exact ix2 | exact ix3 | exact ix4 | exact ix5 | exact ix6 | exact ix7) (hv : a.eval v = .agg c' := by rfl) (hN : o.dst = none := by rfl)
 (hw : Region.wanted o (yielded ops a.tmps) = true := by first | exact wanted_plain rfl | (refine wanted_on rfl ?_; first | (simp [yielded]; done) | rfl)) (hs : cs.size = c'.size := by rfl) (hi : (P.info? t).map (·.size) = some c'.size := by kernel_rfl) (h1 : c'.toList.all (·.oneCell') = true := by rfl) : wpList P ops Q (o :: rest) a W := by
 have hb := S.out.at_ i e
 have hrun : (execOp a.eval o).run P W = .ok .skip (W.setCells g 0 c'.toList) := by
  unfold execOp
  simp only [ho, hp, hv, Sem.run_bind, Sem.run_pure, Result.andThen_ok, run_storeAt_mid W g 0 t c' (fun j hj => ⟨by rw [blk_cell hb]; simp; omega, blk_frozen hb _⟩) hi (by rw [← Array.all_toList]; exact h1)]
 refine ev_skip hw hN hrun (h _ ⟨S.out.put i e (below_setCells _ _ _ S.out.below (S.out.ge i e)) ?_ (fun k hk => setCells_far _ _ _ k hk)⟩)
 have := blk_setCells (g := g) (t := t) c'.toList [] cs.toList W (by simpa using hb) (by simpa using hs)
 simpa using this
theorem ev_set (S : Aside0 (St w0 W bs F)) {i : Nat} {j : Nat} {ty : TypeId} {p : Tmp} {v : Operand} {u : Value}
 (h : ∀ w', Aside0 (St w0 w' (bs.set i (g, t, cs.setIfInBounds j u)) F) → wpList P ops Q rest a w')
 (ho : o.op = .store ty (.tmp p) v := by rfl) (hp : a.eval (.tmp p) = .pointer (some ⟨g, j, none⟩) := by rfl) (e : bs[i]? = some (g, t, cs) := by first | exact ix0 | exact ix1 | exact ix2 | exact ix3 | exact ix4 | exact ix5 | exact ix6 | exact ix7) (hN : o.dst = none := by rfl)
 (hw : Region.wanted o (yielded ops a.tmps) = true := by first | exact wanted_plain rfl | (refine wanted_on rfl ?_; first | (simp [yielded]; done) | rfl))
 (hrun : (∀ k, W.cell? ⟨g, k, none⟩ = cs[k]?) → (∀ k, W.frozen? ⟨g, k, none⟩ = false) → (execOp a.eval o).run P W = .ok .skip (W.setCell ⟨g, j, none⟩ u) := by intro hc_ hf_; first | (go_simp; done) | (go_simp; rfl)) : wpList P ops Q (o :: rest) a W := by
 have hb := S.out.at_ i e
 have _ := ho; have _ := hp
 refine ev_skip hw hN (hrun (blk_cell hb) (blk_frozen hb)) (h _ ⟨S.out.put i e (below_setCell0 S.out.below (S.out.ge i e) _ _) (blk_put hb j u rfl) (fun k hk => Below.heap_setCell W ⟨g, j, none⟩ u k hk)⟩)
end
theorem foot_C {α : Type} {d : Kd α} (hd : Kd.Heap d) {w : World} {A : Option Addr} {n : Nat} {xs : List α} (h : d.C w A n xs) : Foot (fun W => d.C W A n xs) w (fun _ => True) := fun _ hW => hd.C (fun k hk => hW k trivial hk) h
theorem foot_R {α : Type} {d : Kd α} {e : Nat} {w : World} {base : Nat} {v : Value} {xs : List α} (h : d.R e w base (fun _ => True) v xs) : Foot (fun W => d.R e W base (fun _ => True) v xs) w (fun k => base ≤ k) := fun _ hW =>
 Kd.R_mono (Kd.R_move (Kd.R_bound h) (fun k hk => hW k hk.2.1 hk.2.2.1)) (fun _ _ => trivial)
theorem St.addR {α : Type} {d : Kd α} {e : Nat} {w0 w w' : World} {bs : List Bx} {F : World → Prop} {v : Value} {xs : List α} (S : St w0 w bs F) (hb : Below w.heap.size w w') (h : d.R e w' w.heap.size (fun _ => True) v xs) : St w0 w' bs (fun W => F W ∧ d.R e W w0.heap.size (fun _ => True) v xs) :=
 S.add hb fun W' hW => Kd.R_lower (foot_R h W' hW) S.below.size
theorem St.notBox {α : Type} {d : Kd α} {e : Nat} {w0 w : World} {bs : List Bx} {F : World → Prop} {v : Value} {xs : List α} (S : St w0 w bs F) (h : d.R e w w0.heap.size (fun _ => True) v xs) (hE : ∀ b ∈ bs, b.2.1 ∉ e :: d.E) :
 d.R e w w0.heap.size (fun k => k ∉ bs.map (·.1) ∧ w0.heap.size ≤ k) v xs :=
 Kd.R_mono (Kd.R_bound h) (fun k hk => ⟨fun hm => by
  obtain ⟨b, hb', rfl⟩ := List.mem_map.1 hm
  obtain ⟨q, hq, cells, hc⟩ := hk.2.2.2
  rw [(S.box b hb').1] at hc
  injection hc with hc
  injection hc with _ hc
  exact hE b hb' (hc ▸ hq), hk.2.1⟩)
theorem Foot.and {P Q : World → Prop} {W : World} {ok : Nat → Prop} (h1 : Foot P W ok) (h2 : Foot Q W ok) : Foot (fun W => P W ∧ Q W) W ok := fun W' hW => ⟨h1 W' hW, h2 W' hW⟩
end Go.Proofs.YtloccjkcmlkifaaDoor
end

section
/- utext.Check and the document's Check of a text answer alike. -/
namespace Go.Proofs.YtloccjkcmlkifaaDoor
open Go.RowKit Go.Proofs.YtloccjkcmlkifaaDoor.PAll Go.Proofs.YtloccjkcmlkifaaDoorW.PrintWords

theorem decode_four (s : ByteArray) (pos : Nat) : (Utf8.decode s pos).2 ≤ 4 := by
 simp only [Utf8.decode]
 repeat' split
 all_goals simp
theorem chk_succ (s : ByteArray) (f pos : Nat) (n : Int) (h : pos < s.size) : chkFrom s (f + 1) pos n = if okSeq s pos (Utf8.decode s pos).1 then (if okRune (Utf8.decode s pos).1 then chkFrom s f (pos + (Utf8.decode s pos).2) (wrap64 (n + 1)) else (0, pos, 11)) else (0, pos, 10) := by
 rw [chkFrom, if_pos h]

def chk (s : ByteArray) : Int × Int × Int := chkFrom s s.size 0 0
theorem chk_f (s : ByteArray) : utext_Check.f s = some (chk s) := rfl

theorem chk_bound (s : ByteArray) (hs : s.size ≤ 1048576) : 0 ≤ (chk s).1 ∧ (chk s).1 ≤ s.size := by
 have : ∀ (f pos : Nat) (n : Int), 0 ≤ n → n ≤ pos → pos + f ≤ s.size → 0 ≤ (chkFrom s f pos n).1 ∧ (chkFrom s f pos n).1 ≤ s.size := by
  intro f
  induction f with
  | zero => intro pos n h0 h1 h2; exact ⟨h0, by show n ≤ _; omega⟩
  | succ f ih =>
   intro pos n h0 h1 h2
   rw [chk_succ s f pos n (by omega)]
   split
   · split
     · have hw := width_pos s pos (by omega)
       have h5 := decode_four s pos
       by_cases hp : pos + (Utf8.decode s pos).2 + f ≤ s.size
       · exact ih _ _ (by rw [wrap_id (by omega) (by omega)]; omega) (by rw [wrap_id (by omega) (by omega)]; omega) hp
       · -- fewer rounds than bytes are left: the end comes first
         have key : ∀ (g q : Nat) (m : Int), 0 ≤ m → m + g ≤ s.size → 0 ≤ (chkFrom s g q m).1 ∧ (chkFrom s g q m).1 ≤ s.size := by
          intro g
          induction g with
          | zero => intro q m h0 h1; exact ⟨h0, by show m ≤ _; omega⟩
          | succ g ih2 =>
           intro q m h0 h1
           by_cases hq : q < s.size
           · rw [chk_succ s g q m hq]
             split
             · split
               · exact ih2 _ _ (by rw [wrap_id (by omega) (by omega)]; omega) (by rw [wrap_id (by omega) (by omega)]; omega)
               · exact ⟨Int.le_refl _, by show (0 : Int) ≤ _; omega⟩
             · exact ⟨Int.le_refl _, by show (0 : Int) ≤ _; omega⟩
           · rw [chk_end s _ q m hq]; exact ⟨h0, by show m ≤ _; omega⟩
         exact key f _ _ (by rw [wrap_id (by omega) (by omega)]; omega) (by rw [wrap_id (by omega) (by omega)]; omega)
     · exact ⟨Int.le_refl _, by show (0 : Int) ≤ _; omega⟩
   · exact ⟨Int.le_refl _, by show (0 : Int) ≤ _; omega⟩
 exact this s.size 0 0 (by omega) (by omega) (by omega)
end Go.Proofs.YtloccjkcmlkifaaDoor
end

section
/- An operation's own error: the program's and the document's are alike. -/
namespace Go.Proofs.YtloccjkcmlkifaaDoor
open Go.RowKit Go.Proofs.YtloccjkcmlkifaaDoor.PAll Go.Proofs.YtloccjkcmlkifaaDoorW.PrintWords

def rngFrom (l : List S94) : Nat → Nat → Int × Int
 | 0, _ => (0, 0)
 | d + 1, i => if i < l.length then (if (l.getD i z94).f0 < 0 ∨ 1048576 < (l.getD i z94).f1 ∨ (l.getD i z94).f1 ≤ (l.getD i z94).f0 then ((i : Int), 20) else if 0 < i ∧ (l.getD i z94).f0 ≤ (l.getD (i - 1) z94).f1 then ((i : Int), 22) else rngFrom l d (i + 1)) else (0, 0)
def rngE (l : List S94) : Int × Int := if 32768 < l.length then (32768, 21) else rngFrom l l.length 0

theorem span_loop (l : List S94) (hl : l.length ≤ 32768) : ∀ (d k i : Nat), l.length - i ≤ d → i ≤ l.length → 2 * d + 2 ≤ k → span_Check.l0 k l l (l.length : Int) (i : Int) = some (rngFrom l d i) := by
 intro d
 induction d with
 | zero =>
  intro k i h1 h2 hk
  obtain ⟨k, rfl⟩ : ∃ m, k = m + 1 := ⟨k - 1, by omega⟩
  rw [span_Check.l0, if_neg (by omega)]
  rfl
 | succ d ih =>
  intro k i h1 h2 hk
  obtain ⟨k, rfl⟩ : ∃ m, k = m + 2 := ⟨k - 2, by omega⟩
  rw [show k + 2 = (k + 1) + 1 from rfl, span_Check.l0, rngFrom]
  have e : rd_T94 l (i : Int) = l.getD i z94 := by unfold rd_T94; rw [Int.toNat_natCast]
  by_cases hi : i < l.length
  · rw [if_pos (by omega), if_pos (by omega), if_pos (by omega), if_pos hi, e]
    by_cases c1 : (l.getD i z94).f0 < 0
    · rw [if_pos c1, if_pos (.inl c1), span_Check.j1, if_pos rfl]
    · rw [if_neg c1]
      by_cases c2 : (l.getD i z94).f1 > 1048576
      · rw [if_pos c2, if_pos (.inr (.inl c2)), span_Check.j1, if_pos rfl]
      · rw [if_neg c2, span_Check.j1]
        by_cases c3 : (l.getD i z94).f0 ≥ (l.getD i z94).f1
        · rw [if_pos (decide_eq_true c3), if_pos (.inr (.inr c3))]
        · rw [if_neg (by rw [decide_eq_false c3]; simp), if_neg (show ¬ ((l.getD i z94).f0 < 0 ∨ 1048576 < (l.getD i z94).f1 ∨ (l.getD i z94).f1 ≤ (l.getD i z94).f0) by omega)]
          have w1 : wrap64 ((i : Int) + 1) = ((i + 1 : Nat) : Int) := by rw [wrap_id (by omega) (by omega)]; omega
          rw [w1, ih k (i + 1) (by omega) (by omega) (by omega)]
          by_cases c4 : 0 < i
          · have w2 : wrap64 ((i : Int) - 1) = ((i - 1 : Nat) : Int) := by rw [wrap_id (by omega) (by omega)]; omega
            have e2 : rd_T94 l ((i - 1 : Nat) : Int) = l.getD (i - 1) z94 := by unfold rd_T94; rw [Int.toNat_natCast]
            rw [if_pos (by omega), w2, if_pos (by omega), if_pos (by omega), e2]
            by_cases c5 : (l.getD i z94).f0 ≤ (l.getD (i - 1) z94).f1
            · rw [if_pos c5, if_pos ⟨c4, c5⟩]
            · rw [if_neg c5, if_neg (fun h => c5 h.2)]
          · rw [if_neg (by omega), if_neg (fun h => c4 h.1)]
  · rw [if_neg (by omega), if_neg hi]
theorem span_chk (l : List S94) : Ev (fun k => span_Check.f k l) (rngE l) := by
 refine ⟨2 * l.length + 2, fun k hk => ?_⟩
 simp only [span_Check.f, rngE]
 by_cases h : 32768 < l.length
 · rw [if_pos (by omega), if_pos h]
 · rw [if_neg (by omega), if_neg h]
   exact span_loop l (by omega) l.length k 0 (by omega) (by omega) hk

def isID (a b : Int) : Bool := decide (1 ≤ a ∧ a ≤ 8 ∧ 1 ≤ b ∧ b ≤ 1024)
theorem right_is (a b : Int) : op_right.f a b = some (isID a b) := by
 unfold op_right.f isID
 by_cases h1 : 1 ≤ a <;> by_cases h2 : a ≤ 8 <;> by_cases h3 : 1 ≤ b <;> by_cases h4 : b ≤ 1024 <;> simp [h1, h2, h3, h4]
def extraB (o : S41) : Bool := decide ((o.f0.f1 ≠ 1 ∧ (o.f1 ≠ 0 ∨ o.f2.toList ≠ [])) ∨ (o.f0.f1 ≠ 2 ∧ o.f0.f1 ≠ 3 ∧ o.f3.length ≠ 0) ∨ (o.f0.f1 ≠ 4 ∧ (o.f4.f0 ≠ 0 ∨ o.f4.f1 ≠ 0 ∨ o.f5 = true)))
theorem extra_is (o : S41) : op_extra.f o.f0.f0.f0 o.f0.f0.f1 o.f0.f1 o.f1 o.f2 o.f3 o.f4.f0 o.f4.f1 o.f5 = some (extraB o) := by
 obtain ⟨⟨⟨a, b⟩, kd⟩, at', tx, rg, ⟨t0, t1⟩, on⟩ := o
 unfold op_extra.f extraB
 simp only
 by_cases k1 : kd = 1
 · subst k1
   by_cases r : rg.length = 0 <;> by_cases h0 : t0 = 0 <;> by_cases h1 : t1 = 0 <;> cases on <;> simp_all <;> omega
 · by_cases k2 : kd = 2
   · subst k2
     by_cases p : at' = 0 <;> by_cases q : tx.toList = [] <;> by_cases h0 : t0 = 0 <;> by_cases h1 : t1 = 0 <;> cases on <;> simp_all
   · by_cases k3 : kd = 3
     · subst k3
       by_cases p : at' = 0 <;> by_cases q : tx.toList = [] <;> by_cases h0 : t0 = 0 <;> by_cases h1 : t1 = 0 <;> cases on <;> simp_all
     · by_cases k4 : kd = 4
       · subst k4
         by_cases p : at' = 0 <;> by_cases q : tx.toList = [] <;> by_cases r : rg.length = 0 <;> simp_all <;> omega
       · by_cases p : at' = 0 <;> by_cases q : tx.toList = [] <;> by_cases r : rg.length = 0 <;> by_cases h0 : t0 = 0 <;> by_cases h1 : t1 = 0 <;> cases on <;> simp_all <;> omega

def insE (o : S41) (total : Int) : Int :=
 if (chk o.f2).2.2 = 0 then (if (chk o.f2).1 = 0 then 15 else if 256 < (chk o.f2).1 then 14 else if o.f1 < 0 ∨ total < o.f1 then 12 else if 1048576 < total + (chk o.f2).1 then 24 else 0) else (chk o.f2).2.2
def lastHi (l : List S94) : Int := (l.getD (l.length - 1) z94).f1
def rgsE (l : List S94) (total : Int) : Int := if l.length = 0 then 43 else if (rngE l).2 = 0 then (if total < lastHi l then 12 else 0) else (rngE l).2
def staE (o : S41) : Int := if isID o.f4.f0 o.f4.f1 = true ∧ ¬ (o.f4.f0 = o.f0.f0.f0 ∧ o.f4.f1 = o.f0.f0.f1) then 0 else 63
def badID (o : S41) : Prop := ¬ (o.f0.f0.f0 = 0 ∧ o.f0.f0.f1 = 0) ∧ isID o.f0.f0.f0 o.f0.f0.f1 = false
instance (o : S41) : Decidable (badID o) := by unfold badID; infer_instance
def checkE (o : S41) (total : Int) : Int :=
 if total < 0 ∨ 1048576 < total then 12 else if o.f0.f1 < 1 ∨ 4 < o.f0.f1 then 40 else if badID o then 41 else if extraB o = true then 42 else if o.f0.f1 = 1 then insE o total else if o.f0.f1 = 4 then staE o else rgsE o.f3 total
def totOf (o : S41) : Int := if o.f0.f1 = 1 ∧ 0 ≤ o.f1 ∧ o.f1 ≤ 1048576 then o.f1 else 1048576
def ownE (o : S41) : Int := checkE o (totOf o)

theorem ins_is (k : Nat) (o : S41) (total : Int) (ht : 0 ≤ total ∧ total ≤ 1048576) (hs : o.f2.size ≤ 1048576) : op_checkIns.f (k + 1) o.f0.f0.f0 o.f0.f0.f1 o.f0.f1 o.f1 o.f2 o.f3 o.f4.f0 o.f4.f1 o.f5 total = some (insE o total) := by
 have hb := chk_bound o.f2 hs
 unfold op_checkIns.f insE
 rw [chk_f]
 simp only [Option.bind_some]
 by_cases c1 : (chk o.f2).2.2 = 0
 · rw [if_pos c1, if_pos c1]
   by_cases c2 : (chk o.f2).1 = 0
   · rw [if_pos c2, if_pos c2]
   · rw [if_neg c2, if_neg c2]
     by_cases c3 : 256 < (chk o.f2).1
     · rw [if_pos (by omega), if_pos c3]
     · rw [if_neg (by omega), if_neg c3]
       have w : wrap64 (total + (chk o.f2).1) = total + (chk o.f2).1 := wrap_id (by omega) (by omega)
       by_cases c4 : o.f1 < 0
       · rw [if_pos c4, if_pos (Or.inl c4), op_checkIns.j0, if_pos rfl]
       · rw [if_neg c4, op_checkIns.j0]
         by_cases c5 : total < o.f1
         · rw [if_pos (decide_eq_true c5), if_pos (Or.inr c5)]
         · rw [if_neg (by rw [decide_eq_false (by omega)]; simp), if_neg (show ¬ (o.f1 < 0 ∨ total < o.f1) by omega), w]
           by_cases c6 : 1048576 < total + (chk o.f2).1
           · rw [if_pos (by omega), if_pos c6]
           · rw [if_neg (by omega), if_neg c6]
 · rw [if_neg c1, if_neg c1]
theorem rgs_is (l : List S94) (total : Int) (hl : l.length ≤ 4611686018427387904) : Ev (fun k => op_checkRanges.f k l total) (rgsE l total) := by
 obtain ⟨K, hK⟩ := span_chk l
 dsimp only at hK
 refine ⟨K, fun k hk => ?_⟩
 simp only [op_checkRanges.f, rgsE]
 by_cases c0 : l.length = 0
 · rw [if_pos (by omega), if_pos c0]
 · rw [if_neg (by omega), if_neg c0, hK k hk]
   simp only [Option.bind_some]
   by_cases c1 : (rngE l).2 = 0
   · have w : wrap64 ((l.length : Int) - 1) = ((l.length - 1 : Nat) : Int) := by rw [wrap_id (by omega) (by omega)]; omega
     have e : rd_T94 l ((l.length - 1 : Nat) : Int) = l.getD (l.length - 1) z94 := by unfold rd_T94; rw [Int.toNat_natCast]
     rw [if_pos c1, if_pos c1, w, if_pos (by omega), if_pos (by omega), e]
     unfold lastHi
     by_cases c2 : total < (l.getD (l.length - 1) z94).f1
     · rw [if_pos (by omega), if_pos c2]
     · rw [if_neg (by omega), if_neg c2]
   · rw [if_neg c1, if_neg c1]

theorem check_is (o : S41) (total : Int) (hs : o.f2.size ≤ 1048576) (hl : o.f3.length ≤ 4611686018427387904) : Ev (fun k => op_Check.f k o.f0.f0.f0 o.f0.f0.f1 o.f0.f1 o.f1 o.f2 o.f3 o.f4.f0 o.f4.f1 o.f5 total) (checkE o total) := by
 obtain ⟨K, hK⟩ := rgs_is o.f3 total hl
 dsimp only at hK
 refine ⟨K + 4, fun k hk => ?_⟩
 obtain ⟨k, rfl⟩ : ∃ m, k = m + 4 := ⟨k - 4, by omega⟩
 simp only [op_Check.f, checkE]
 by_cases c0 : total < 0
 · rw [if_pos c0, if_pos (Or.inl c0), op_Check.j0, if_pos rfl]
 · rw [if_neg c0, op_Check.j0]
   by_cases c1 : 1048576 < total
   · rw [if_pos (decide_eq_true c1), if_pos (Or.inr c1)]
   · rw [if_neg (by rw [decide_eq_false (by omega)]; simp), if_neg (show ¬ (total < 0 ∨ 1048576 < total) by omega)]
     by_cases c2 : o.f0.f1 < 1
     · rw [if_pos c2, if_pos (Or.inl c2), op_Check.j1, if_pos rfl]
     · rw [if_neg c2, op_Check.j1]
       by_cases c3 : 4 < o.f0.f1
       · rw [if_pos (decide_eq_true c3), if_pos (Or.inr c3)]
       · rw [if_neg (by rw [decide_eq_false (by omega)]; simp), if_neg (show ¬ (o.f0.f1 < 1 ∨ 4 < o.f0.f1) by omega)]
         have hj : ∀ b : Bool, (b = true ↔ badID o) → op_Check.j2 (k + 2) total b o.f0.f0.f0 o.f0.f0.f1 o.f0.f1 o.f1 o.f2 o.f3 o.f4.f0 o.f4.f1 o.f5 = some (if badID o then 41 else if extraB o = true then 42 else if o.f0.f1 = 1 then insE o total else if o.f0.f1 = 4 then staE o else rgsE o.f3 total) := by
          intro b hb
          rw [op_Check.j2]
          by_cases c4 : badID o
          · rw [if_pos (hb.2 c4), if_pos c4]
          · rw [if_neg (fun h => c4 (hb.1 h)), if_neg c4, extra_is]
            simp only [Option.bind_some]
            by_cases c5 : extraB o = true
            · rw [if_pos c5, if_pos c5]
            · rw [if_neg c5, if_neg c5]
              by_cases c6 : o.f0.f1 = 1
              · rw [if_pos c6, if_pos c6, ins_is k o total ⟨by omega, by omega⟩ hs]
                rfl
              · rw [if_neg c6, if_neg c6]
                by_cases c7 : o.f0.f1 = 4
                · rw [if_pos c7, if_pos c7, right_is]
                  simp only [Option.bind_some]
                  unfold staE
                  by_cases c8 : isID o.f4.f0 o.f4.f1 = true
                  · rw [if_pos c8]
                    by_cases c9 : o.f4.f0 = o.f0.f0.f0 ∧ o.f4.f1 = o.f0.f0.f1
                    · rw [if_pos (by simp [c9.1, c9.2]), if_neg (fun h => h.2 c9)]
                    · rw [if_neg (by simpa using c9), if_pos ⟨c8, c9⟩]
                  · rw [if_neg c8, if_neg (fun h => c8 h.1)]
                · rw [if_neg c7, if_neg c7, hK (k + 1) (by omega)]
                  rfl
         by_cases c4 : (!(o.f0.f0.f0 == 0) || (!(o.f0.f0.f1 == 0))) = true
         · rw [if_pos c4, right_is]
           simp only [Option.bind_some]
           refine hj _ ?_
           have : ¬ (o.f0.f0.f0 = 0 ∧ o.f0.f0.f1 = 0) := by simpa [Classical.or_iff_not_imp_left] using c4
           unfold badID
           simp [this]
         · rw [if_neg c4]
           refine hj _ ?_
           have : o.f0.f0.f0 = 0 ∧ o.f0.f0.f1 = 0 := by simpa using c4
           unfold badID
           simp [this]

theorem own_is (o : S41) (hs : o.f2.size ≤ 1048576) (hl : o.f3.length ≤ 4611686018427387904) : Ev (fun k => xform_own.f k o.f0.f0.f0 o.f0.f0.f1 o.f0.f1 o.f1 o.f2 o.f3 o.f4.f0 o.f4.f1 o.f5) (ownE o) := by
 obtain ⟨K, hK⟩ := check_is o (totOf o) hs hl
 dsimp only at hK
 refine ⟨K + 1, fun k hk => ?_⟩
 obtain ⟨k, rfl⟩ : ∃ m, k = m + 1 := ⟨k - 1, by omega⟩
 have hK' := hK k (by omega)
 simp only [xform_own.f, ownE]
 by_cases c1 : o.f0.f1 = 1
 · by_cases c2 : 0 ≤ o.f1
   · by_cases c3 : o.f1 ≤ 1048576
     · have e : totOf o = o.f1 := by unfold totOf; rw [if_pos ⟨c1, c2, c3⟩]
       rw [e] at hK' ⊢
       rw [if_pos c1, if_pos c2, xform_own.j0, if_pos (decide_eq_true c3), hK']
       rfl
     · have e : totOf o = 1048576 := by unfold totOf; rw [if_neg (fun h => c3 h.2.2)]
       rw [e] at hK' ⊢
       rw [if_pos c1, if_pos c2, xform_own.j0, if_neg (by rw [decide_eq_false c3]; simp), hK']
       rfl
   · have e : totOf o = 1048576 := by unfold totOf; rw [if_neg (fun h => c2 h.2.1)]
     rw [e] at hK' ⊢
     rw [if_pos c1, if_neg c2, xform_own.j0, if_neg (by simp), hK']
     rfl
 · have e : totOf o = 1048576 := by unfold totOf; rw [if_neg (fun h => c1 h.1)]
   rw [e] at hK' ⊢
   rw [if_neg c1, xform_own.j0, if_neg (by simp), hK']
   rfl
end Go.Proofs.YtloccjkcmlkifaaDoor
end

section
/- xform.Caret and the document's Caret answer alike. -/
namespace Go.Proofs.YtloccjkcmlkifaaDoor
open Go.RowKit Go.Proofs.YtloccjkcmlkifaaDoor.PAll Go.Proofs.YtloccjkcmlkifaaDoorW.PrintWords

def wid (o : S41) : Int := if o.f0.f1 = 1 then (chk o.f2).1 else 0
theorem own_ok {o : S41} (h : ownE o = 0) : 1 ≤ o.f0.f1 ∧ o.f0.f1 ≤ 4 ∧ ¬ badID o ∧ extraB o = false ∧
 (o.f0.f1 = 1 → 0 ≤ o.f1 ∧ o.f1 ≤ 1048576 ∧ (chk o.f2).2.2 = 0 ∧ 1 ≤ (chk o.f2).1 ∧ (chk o.f2).1 ≤ 256 ∧ o.f1 + (chk o.f2).1 ≤ 1048576 ∨ (chk o.f2).1 < 0) ∧
 (o.f0.f1 = 2 ∨ o.f0.f1 = 3 → o.f3.length ≠ 0 ∧ (rngE o.f3).2 = 0 ∧ lastHi o.f3 ≤ 1048576) ∧ (o.f0.f1 = 4 → staE o = 0) := by
 unfold ownE checkE at h
 by_cases t : totOf o < 0 ∨ 1048576 < totOf o
 · rw [if_pos t] at h; omega
 rw [if_neg t] at h
 by_cases k : o.f0.f1 < 1 ∨ 4 < o.f0.f1
 · rw [if_pos k] at h; omega
 rw [if_neg k] at h
 by_cases b : badID o
 · rw [if_pos b] at h; omega
 rw [if_neg b] at h
 by_cases e : extraB o = true
 · rw [if_pos e] at h; omega
 rw [if_neg e] at h
 refine ⟨by omega, by omega, b, by simpa using e, fun k1 => ?_, fun k2 => ?_, fun k4 => ?_⟩
 · rw [if_pos k1] at h
   unfold insE at h
   by_cases c1 : (chk o.f2).2.2 = 0
   · rw [if_pos c1] at h
     by_cases c2 : (chk o.f2).1 = 0
     · rw [if_pos c2] at h; omega
     rw [if_neg c2] at h
     by_cases c3 : 256 < (chk o.f2).1
     · rw [if_pos c3] at h; omega
     rw [if_neg c3] at h
     by_cases c4 : o.f1 < 0 ∨ totOf o < o.f1
     · rw [if_pos c4] at h; omega
     rw [if_neg c4] at h
     by_cases c5 : 1048576 < totOf o + (chk o.f2).1
     · rw [if_pos c5] at h; omega
     by_cases c6 : (chk o.f2).1 < 0
     · exact .inr c6
     left
     have : totOf o = o.f1 ∨ totOf o = 1048576 := by unfold totOf; split <;> simp
     rcases this with q | q
     · exact ⟨by omega, by omega, c1, by omega, by omega, by omega⟩
     · omega
   · rw [if_neg c1] at h; omega
 · rw [if_neg (by omega), if_neg (by omega)] at h
   unfold rgsE at h
   by_cases c1 : o.f3.length = 0
   · rw [if_pos c1] at h; omega
   rw [if_neg c1] at h
   by_cases c2 : (rngE o.f3).2 = 0
   · rw [if_pos c2] at h
     by_cases c3 : totOf o < lastHi o.f3
     · rw [if_pos c3] at h; omega
     exact ⟨c1, c2, by omega⟩
   · rw [if_neg c2] at h; omega
 · rw [if_neg (by omega), if_pos k4] at h
   exact h
theorem own_ins {o : S41} (h : ownE o = 0) (hs : o.f2.size ≤ 1048576) (k : o.f0.f1 = 1) : 0 ≤ o.f1 ∧ o.f1 ≤ 1048576 ∧ (chk o.f2).2.2 = 0 ∧ 1 ≤ (chk o.f2).1 ∧ (chk o.f2).1 ≤ 256 ∧ o.f1 + (chk o.f2).1 ≤ 1048576 := by
 have hb := chk_bound o.f2 hs
 rcases (own_ok h).2.2.2.2.1 k with q | q
 · exact q
 · omega

theorem width_is (o : S41) : op_Width.f o.f0.f0.f0 o.f0.f0.f1 o.f0.f1 o.f1 o.f2 o.f3 o.f4.f0 o.f4.f1 o.f5 = some (wid o) := by
 unfold op_Width.f wid
 by_cases h : o.f0.f1 = 1
 · rw [if_pos h, if_pos h, chk_f]; rfl
 · rw [if_neg h, if_neg h]
end Go.Proofs.YtloccjkcmlkifaaDoor
end

section
/- What comes in is of a size that a machine may hold; a copy is what was copied. -/
namespace Go.Proofs.YtloccjkcmlkifaaDoor
open Go.RowKit Go.Proofs.YtloccjkcmlkifaaDoor.PAll Go.Proofs.YtloccjkcmlkifaaDoorW.PrintWords

def fineOp (o : S41) : Prop := o.f2.size ≤ 1048576 ∧ o.f3.length ≤ 1048576
theorem copy_is (o : S41) (h : fineOp o) : redraftref05_Copy.f o.f0.f0.f0 o.f0.f0.f1 o.f0.f1 o.f1 o.f2 o.f3 o.f4.f0 o.f4.f1 o.f5 = some (o.f0.f0.f0, o.f0.f0.f1, o.f0.f1, o.f1, o.f2, o.f3, o.f4.f0, o.f4.f1, o.f5) := by
 unfold redraftref05_Copy.f
 rw [if_pos (by have := h.2; simp; omega)]
 rfl
end Go.Proofs.YtloccjkcmlkifaaDoor
end

section
/- Operations as values: what a call hands back of an operation; the small functions of xform, told of whole operations. -/
namespace Go.Proofs.YtloccjkcmlkifaaDoor
open Go.RowKit Go.Proofs.YtloccjkcmlkifaaDoor.PAll Go.Proofs.YtloccjkcmlkifaaDoorW.PrintWords

abbrev opA (o : S41) (v : Value) : Array Value := #[.int .i64 o.f0.f0.f0, .int .i64 o.f0.f0.f1, .int .i64 o.f0.f1, .int .i64 o.f1, .string o.f2, v, .int .i64 o.f4.f0, .int .i64 o.f4.f1, .bool o.f5]
abbrev zA : Array Value := #[.int .i64 0, .int .i64 0, .int .i64 0, .int .i64 0, .string ⟨#[]⟩, .slice none 0 0, .int .i64 0, .int .i64 0, .bool false]
def OpC (w : World) (v : Value) (o : S41) : Prop := ∃ A c, v = .slice A o.f3.length c ∧ o.f3.length ≤ c ∧ k94.C w A o.f3.length o.f3
theorem OpC.below {w w' : World} {v : Value} {o : S41} (h : OpC w v o) (hb : Below w.heap.size w w') : OpC w' v o := by
 obtain ⟨A, c, e, h1, h2⟩ := h
 exact ⟨A, c, e, h1, Kd.C_below h2 hb⟩
theorem opC_mk {w : World} {o : S41} {A : Option Addr} {c : Nat} (h1 : o.f3.length ≤ c) (h2 : k94.C w A o.f3.length o.f3) : OpC w (.slice A o.f3.length c) o := ⟨A, c, rfl, h1, h2⟩
def OpR (w : World) (base : Nat) (v : Value) (o : S41) : Prop := Kd.R k94 94 w base (fun _ => True) v o.f3
theorem OpR.C {w : World} {base : Nat} {v : Value} {o : S41} (h : OpR w base v o) : OpC w v o := Kd.R_reads h
theorem OpR.slice {w : World} {base : Nat} {v : Value} {o : S41} (h : OpR w base v o) : ∃ A c, v = .slice A o.f3.length c := Kd.R_slice h
def IsOp (w : World) (r : S41) : Ending → World → Prop := fun e w' => ∃ v, e = .returned (.agg (opA r v)) ∧ OpR w' w.heap.size v r ∧ Below w.heap.size w w'
def RetOp (w : World) (r : S41 × Int) : Ending → World → Prop := fun e w' => ∃ v, e = .returned (.tuple #[.agg (opA r.1 v), .int .i64 r.2]) ∧ OpR w' w.heap.size v r.1 ∧ Below w.heap.size w w'
theorem St.addOp {w0 w w' : World} {bs : List Bx} {F : World → Prop} {v : Value} {o : S41} (S : St w0 w bs F) (hb : Below w.heap.size w w') (h : OpR w' w.heap.size v o) : St w0 w' bs (fun W => F W ∧ OpR W w0.heap.size v o) := S.addR hb h
theorem opR_nil (w : World) (base : Nat) : OpR w base (.slice none 0 0) z41 := Kd.R_nil _ _ _ _ _

def clashB (a b : S41) : Bool := decide (a.f0.f0.f0 = b.f0.f0.f0 ∧ a.f0.f0.f1 = b.f0.f0.f1 ∧ (a.f0.f0.f0 ≠ 0 ∨ a.f0.f0.f1 ≠ 0))
theorem clash_f (a b : S41) : xform_clash.f a.f0.f0.f0 a.f0.f0.f1 a.f0.f1 a.f1 a.f2 a.f3 a.f4.f0 a.f4.f1 a.f5 b.f0.f0.f0 b.f0.f0.f1 b.f0.f1 b.f1 b.f2 b.f3 b.f4.f0 b.f4.f1 b.f5 = some (clashB a b) := by
 unfold xform_clash.f clashB
 generalize a.f0.f0.f0 = x, a.f0.f0.f1 = y, b.f0.f0.f0 = u, b.f0.f0.f1 = v
 by_cases h1 : x = u
 · subst h1
   by_cases h2 : y = v
   · subst h2
     by_cases h3 : x = 0 <;> by_cases h4 : y = 0 <;> simp [h3, h4]
   · rw [if_neg (by simp [h2])]; simp [h2]
 · rw [if_neg (by simp [h1])]; simp [h1]
theorem clash_any (a b : S41) (va vb : Value) (w : World) (r : Bool) (ha : OpC w va a) (hb : OpC w vb b) (hr : clashB a b = r) :
 Calls Tryd.prog 71 #[.agg (opA a va), .agg (opA b vb)] w fun e w' => e = .returned (.bool r) ∧ Below w.heap.size w w' := by
 obtain ⟨A, c, rfl, h1, h2⟩ := ha
 obtain ⟨B, d, rfl, h3, h4⟩ := hb
 exact xform_clash.calls _ _ _ _ _ A c a.f3 _ _ _ _ _ _ _ _ B d b.f3 _ _ _ r w h2 h1 h4 h3 (by rw [clash_f, hr])
theorem clone_f (a : S41) (h : a.f3.length ≤ 1048576) : op_Clone.f a.f0.f0.f0 a.f0.f0.f1 a.f0.f1 a.f1 a.f2 a.f3 a.f4.f0 a.f4.f1 a.f5 = some (a.f0.f0.f0, a.f0.f0.f1, a.f0.f1, a.f1, a.f2, a.f3, a.f4.f0, a.f4.f1, a.f5) := by
 unfold op_Clone.f
 rw [if_pos (by simp; omega)]
 rfl
theorem clone_any (a : S41) (va : Value) (w : World) (ha : OpC w va a) (hl : a.f3.length ≤ 1048576) : Calls Tryd.prog 64 #[.agg (opA a va)] w (IsOp w a) := by
 obtain ⟨A, c, rfl, h1, h2⟩ := ha
 exact (op_Clone.calls _ _ _ _ _ A c a.f3 _ _ _ _ _ _ _ _ _ _ _ _ w h2 h1 (clone_f a hl)).mono fun e w' ⟨v, he, hr, hb⟩ => ⟨v, he, hr, hb⟩
theorem width_any (a : S41) (va : Value) (w : World) (hG : GW w) (ha : OpC w va a) : Calls Tryd.prog 53 #[.agg (opA a va)] w fun e w' => e = .returned (.int .i64 (wid a)) ∧ Below w.heap.size w w' := by
 obtain ⟨A, c, rfl, h1, h2⟩ := ha
 exact op_Width.calls _ _ _ _ _ A c a.f3 _ _ _ _ w h2 h1 hG (width_is a)

def moveE (a : S41) (p : Int) : S41 × Int := if 1048576 < p + wid a then (z41, 24) else (⟨a.f0, p, a.f2, [], a.f4, a.f5⟩, 0)
theorem moved_any (a : S41) (va : Value) (p : Int) (w : World) (hG : GW w) (ha : OpC w va a) (hp : -4611686018427387904 ≤ p ∧ p ≤ 4611686018427387904) (hw : -4611686018427387904 ≤ wid a ∧ wid a ≤ 4611686018427387000) :
 Calls Tryd.prog 72 #[.agg (opA a va), .int .i64 p] w (RetOp w (moveE a p)) := by
 obtain ⟨A, c, rfl, h1, h2⟩ := ha
 have S := Aside0.mk (St.init w (F := fun _ => True) (fun _ _ => trivial))
 have HA := Aside0.mk (opC_mk h1 h2); have HG := Aside0.mk hG
 have hq : IntKind.i64.wrap (p + wid a) = p + wid a := IntWalk.i64_in _ (by omega)
 unfold moveE
 clear h1 h2 hG hp hw
 by_cases h : 1048576 < p + wid a
 · rw [if_pos h]
   have h' := decide_eq_true h
   clear h
   go_enter Tryd.func72, Tryd.ntmps72
   go_wp2_with (first | ((with_reducible refine gate_box rfl ?_); refine ev_box S ?_; clear S; intro _ _ S) | ((with_reducible refine gate_new rfl ?_); refine ev_new S 41 zA ?_; clear S; intro _ _ S) | ((with_reducible refine gate_load rfl ?_); first | refine ev_load S ?_ | refine ev_fld S ?_) | ((with_reducible refine gate_st rfl ?_); refine ev_store S ?_; clear S; intro _ S) | (go_at_call 53; (with_reducible refine (width_any a _ _ (GW.below HG.out S.out.below) (HA.out.below S.out.below)).mono ?_); rintro e_ w7 ⟨rfl, hb⟩; replace S := Aside0.mk (S.out.step hb); clear hb))
   exact bodyPost_ret (results_ct rfl _ _ _ 41 _ (0, 0) _ rfl (S.out.at_ 0 rfl) Tryd.underlying41 rfl (by kernel_rfl)) rfl ⟨.slice none 0 0, rfl, opR_nil _ _, S.out.below⟩
 · rw [if_neg h]
   have h' := decide_eq_false h
   clear h
   go_enter Tryd.func72, Tryd.ntmps72
   go_wp2_with (first | ((with_reducible refine gate_box rfl ?_); refine ev_box S ?_; clear S; intro _ _ S) | ((with_reducible refine gate_new rfl ?_); refine ev_new S 41 zA ?_; clear S; intro _ _ S) | ((with_reducible refine gate_load rfl ?_); first | refine ev_load S ?_ | refine ev_fld S ?_) | ((with_reducible refine gate_st rfl ?_); refine ev_store S ?_; clear S; intro _ S) | ((with_reducible refine gate_st rfl ?_); refine ev_set S ?_; clear S; intro _ S) | (go_at_call 53; (with_reducible refine (width_any a _ _ (GW.below HG.out S.out.below) (HA.out.below S.out.below)).mono ?_); rintro e_ w7 ⟨rfl, hb⟩; replace S := Aside0.mk (S.out.step hb); clear hb))
   exact bodyPost_ret (results_ct rfl _ _ _ 41 _ (0, 0) _ rfl (S.out.at_ 0 rfl) Tryd.underlying41 rfl (by kernel_rfl)) rfl ⟨.slice none 0 0, rfl, opR_nil _ _, S.out.below⟩
def rangedE (a : S41) (r : List S94 × Int) : S41 × Int := if r.2 = 0 then (⟨a.f0, a.f1, a.f2, r.1, a.f4, a.f5⟩, 0) else (z41, r.2)
theorem OpC.foot {w : World} {v : Value} {o : S41} (h : OpC w v o) : Foot (fun W => OpC W v o) w (fun _ => True) := by
 obtain ⟨A, c, e, h1, h2⟩ := h
 exact fun W' hW => ⟨A, c, e, h1, foot_C k94_heap h2 W' hW⟩
structure Fit (o : S41) : Prop where
 len : o.f3.length ≤ 1048576
 at_ : 0 ≤ o.f1 ∧ o.f1 ≤ 1048576
 wid : 0 ≤ wid o ∧ wid o ≤ 1048576
theorem k94_E : k94.E = [] := rfl
theorem St.withR {α : Type} {d : Kd α} {e : Nat} {w0 w : World} {bs : List Bx} {F : World → Prop} {v : Value} {xs : List α} (S : St w0 w bs F) (hu : d.R e w w0.heap.size (fun k => k ∉ bs.map (·.1) ∧ w0.heap.size ≤ k) v xs) : St w0 w bs (fun W => F W ∧ d.R e W w0.heap.size (fun _ => True) v xs) :=
 ⟨S.below, S.box, S.nd, Foot.and S.foot fun _ hW => Kd.R_mono (Kd.R_move (Kd.R_bound hu) (fun k hk => hW k hk.1.1 hk.2.2.1)) (fun _ _ => trivial)⟩
theorem ranged_any (a : S41) (va : Value) (r : List S94 × Int) (u : Value) (w0 w : World) (bs : List Bx) (F : World → Prop) (S : St w0 w bs F) (hbs : ∀ b ∈ bs, b.2.1 ∉ (94 : Nat) :: k94.E) (ha : OpC w0 va a) (hu : Kd.R k94 94 w w0.heap.size (fun _ => True) u r.1) :
 Calls Tryd.prog 74 #[.agg (opA a va), u, .int .i64 r.2] w fun e w' => ∃ v, e = .returned (.tuple #[.agg (opA (rangedE a r).1 v), .int .i64 (rangedE a r).2]) ∧ (∃ A c, v = .slice A (rangedE a r).1.f3.length c) ∧ St w0 w' bs (fun W => True ∧ OpR W w0.heap.size v (rangedE a r).1) := by
 obtain ⟨A, c, rfl, h1, h2⟩ := ha
 obtain ⟨B, d, rfl⟩ := Kd.R_slice hu
 replace S := Aside0.mk (S.withR (S.notBox hu hbs))
 unfold rangedE
 clear h1 h2 hu
 by_cases h : r.2 = 0
 · rw [if_pos h, h]
   clear h
   go_enter Tryd.func74, Tryd.ntmps74
   go_wp2_with (first | ((with_reducible refine gate_box rfl ?_); refine ev_box S ?_; clear S; intro _ _ S) | ((with_reducible refine gate_new rfl ?_); refine ev_new S 41 zA ?_; clear S; intro _ _ S) | ((with_reducible refine gate_load rfl ?_); first | refine ev_load S ?_ | refine ev_fld S ?_) | ((with_reducible refine gate_st rfl ?_); refine ev_store S ?_; clear S; intro _ S) | ((with_reducible refine gate_st rfl ?_); refine ev_set S ?_; clear S; intro _ S))
   exact bodyPost_ret (results_ct rfl _ _ _ 41 _ (0, 0) _ rfl (S.out.at_ 0 rfl) Tryd.underlying41 rfl (by kernel_rfl)) rfl ⟨_, rfl, ⟨_, _, rfl⟩, (S.out.drop (List.drop_sublist 2 _)).weak fun _ h => ⟨trivial, h.2⟩⟩
 · rw [if_neg h]
   have h' : (r.2 != 0) = true := bne_iff_ne.mpr h
   clear h
   go_enter Tryd.func74, Tryd.ntmps74
   go_wp2_with (first | ((with_reducible refine gate_box rfl ?_); refine ev_box S ?_; clear S; intro _ _ S) | ((with_reducible refine gate_new rfl ?_); refine ev_new S 41 zA ?_; clear S; intro _ _ S) | ((with_reducible refine gate_st rfl ?_); refine ev_store S ?_; clear S; intro _ S))
   exact bodyPost_ret (results_ct rfl _ _ _ 41 _ (0, 0) _ rfl (S.out.at_ 0 rfl) Tryd.underlying41 rfl (by kernel_rfl)) rfl ⟨.slice none 0 0, rfl, ⟨none, 0, rfl⟩, (S.out.drop (List.drop_sublist 2 _)).weak fun _ _ => ⟨trivial, opR_nil _ _⟩⟩
end Go.Proofs.YtloccjkcmlkifaaDoor
end

section
/- A region that draws its order, walked over the state of a walk: what is pure or read from boxes is taken first. -/
namespace Go.Proofs.YtloccjkcmlkifaaDoor
open Go.RowKit Go.Proofs.YtloccjkcmlkifaaDoorW.PrintWords Go.Proofs.YtloccjkcmlkifaaDoorW.PrintLast

section
variable {P : Program} {ops : Array Oper} {Q : Exit → Act → World → Prop} {md : Region.Mode} {S : World → Prop} {ds : List Nat} {fuel : Nat} {l : Array Bool} {a a' : Act} {w w0 : World} {oi : Oper} {N : Tmp} {v : Value} {bs : List Bx} {F : World → Prop}
theorem rg_start {id n : Nat} (S : World → Prop) (ds : List Nat) (hS : S w) (hd : ∀ w, S w → S w.drew) (h : ∀ w', S w' → wpAnyLast P .any ops Q S ds n (Array.replicate n false) a w') (hm : P.follows .mixedOrders = true := by kernel_rfl) (hn : ops.size = n := by rfl) : (Code.region id ops true).wp P Q a w :=
 start_ (Array.replicate n false) hm hn rfl (hd _ hS) (h _)
theorem pu_ (i : Nat) (h : wpAnyLast P md ops Q S ds fuel (l.setIfInBounds i true) a' w)
 (hi : ops[i]? = some oi := by rfl) (hN : oi.dst = some N := by rfl) (hc : anyB md ops l (l.setIfInBounds i true) i = true := by kernel_rfl)
 (hw : Region.wanted oi (yielded ops a.tmps) = true := by first | exact wanted_plain rfl | (refine wanted_on rfl ?_; simp [yielded]))
 (hy : ∀ w', (execOp a.eval oi).run P w' = .ok (.value v) w' := by intro w'; go_simp; (try with_reducible rfl))
 (ha : a.put (some N) v = a' := by (simp only [Act.put, List.setIfInBounds_toArray, List.set_cons_zero, List.set_cons_succ]; rfl))
 (hQ : ∀ c a w, Q (.panic c) (a.put oi.dst v) w → Q (.panic c) a w := by exact fun _ _ _ h => h) : wpAnyLast P md ops Q S ds (fuel + 1) l a w :=
 pure_ (l.setIfInBounds i true) hi hN hc hQ (.inl ⟨hw, hy⟩) ha h
theorem ld_ (i k : Nat) {ty : TypeId} {x : Operand} {d : TypeDesc} {g : Nat} {t : TypeId} {cs : Array Value} (hS : S w)
 (h : wpAnyLast P md ops Q S ds fuel (l.setIfInBounds i true) a' w) (hSt : ∀ w, S w → St w0 w bs F := by exact fun _ h => h)
 (hi : ops[i]? = some oi := by rfl) (hN : oi.dst = some N := by rfl) (hc : takeB md ops ds l (l.setIfInBounds i true) i = true := by kernel_rfl)
 (ho : oi.op = .load ty x := by rfl) (hx : a.eval x = .pointer (some ⟨g, 0, none⟩) := by rfl) (e : bs[k]? = some (g, t, cs) := by rfl)
 (hw : Region.wanted oi (yielded ops a.tmps) = true := by first | exact wanted_plain rfl | (refine wanted_on rfl ?_; simp [yielded]))
 (hu : P.underlying ty = some d := by first | exact Tryd.underlying41 | exact Tryd.underlying100) (hdd : (match d with | .struct _ | .array _ _ => true | _ => false) = true := by rfl) (hs : (P.info? ty).map (·.size) = some cs.size := by kernel_rfl)
 (ha : a.put (some N) (.agg cs) = a' := by (simp only [Act.put, List.setIfInBounds_toArray, List.set_cons_zero, List.set_cons_succ]; rfl))
 (hQ : ∀ c a w, Q (.panic c) (a.put oi.dst (.agg cs)) w → Q (.panic c) a w := by exact fun _ _ _ h => h) : wpAnyLast P md ops Q S ds (fuel + 1) l a w :=
 take_ (l.setIfInBounds i true) hi hN hc hQ (.inl ⟨hw, fun w' hS' => by
  have hcc : atL w' ⟨g, 0, none⟩ 0 cs.toList := atL_blk (by simpa using (hSt w' hS').at_ k e)
  have hr := run_load_wide (P := P) w' ⟨g, 0, none⟩ ty cs.toList d hcc hu hdd (by simpa using hs)
  unfold execOp
  simp only [ho, hx, Instr.loadAt, Instr.sureAddr, Sem.run_bind, Sem.run_pure, Result.andThen_ok, hr]⟩) hS ha h
theorem cl_ (i : Nat) {f : FuncId} {fn : Func} {xs : Array Operand} {ts : Array TypeId} (args : Array Value)
 (h : Calls P f args w fun e w' => ∃ v, e = .returned v ∧ S w' ∧ (S w' → wpAnyLast P md ops Q S ds fuel (l.setIfInBounds i true) (a.put (some N) v) w'))
 (hf : P.funcs[f]? = some fn)
 (hi : ops[i]? = some oi := by rfl) (hN : oi.dst = some N := by rfl) (hc : readyB md ops l (l.setIfInBounds i true) i = true := by kernel_rfl) (hd : i ∉ ds := by decide)
 (hop : oi.op = .call { callee := .value (.func f), args := xs, argTypes := ts } := by rfl) (hargs : xs.map a.eval = args := by ((try simp only [List.map_toArray, List.map_cons, List.map_nil]); first | done | rfl))
 (hw : Region.wanted oi (yielded ops a.tmps) = true := by first | exact wanted_plain rfl | (refine wanted_on rfl ?_; simp [yielded]))
 (hname : (fn.name == "runtime.NumGoroutine") = false := by kernel_rfl) (hb : fn.body.isSome = true := by rfl) : wpAnyLast P md ops Q S ds (fuel + 1) l a w :=
 one_ (l.setIfInBounds i true) hi hN hc hd fun _ hK => goes_ hf hname hb args hw hN hop hargs (h.mono fun _ _ ⟨v, he, hs, hh⟩ => ⟨v, he, hK.out _ _ hs hh⟩)
theorem nr_ (h : wpAnyLast P md ops Q S ds fuel l a' w) (ha : a = a' := by (simp only [Act.put, List.setIfInBounds_toArray, List.set_cons_zero, List.set_cons_succ]; rfl)) : wpAnyLast P md ops Q S ds fuel l a w := norm_ ha h
theorem kc_ {f : FuncId} {fn : Func} {xs : Array Operand} {ts : Array TypeId} {K : Act → World → Prop} (args : Array Value) (h : Calls P f args w fun e w' => ∃ v, e = .returned v ∧ K (a.put (some N) v) w')
 (hf : P.funcs[f]? = some fn) (hN : oi.dst = some N := by rfl)
 (hop : oi.op = .call { callee := .value (.func f), args := xs, argTypes := ts } := by rfl) (hargs : xs.map a.eval = args := by ((try simp only [List.map_toArray, List.map_cons, List.map_nil]); first | done | rfl))
 (hw : Region.wanted oi (yielded ops a.tmps) = true := by first | exact wanted_plain rfl | (refine wanted_on rfl ?_; simp [yielded]))
 (hname : (fn.name == "runtime.NumGoroutine") = false := by kernel_rfl) (hb : fn.body.isSome = true := by rfl) : if Region.wanted oi (yielded ops a.tmps) = true then Oper.wp P oi a w K Q else K (a.put oi.dst undef) w := by
 rw [hN]
 exact goes_ hf hname hb args hw hN hop hargs h
theorem kn_ (t : TypeId) (cs : Array Value) {K : Act → World → Prop} (hSt : St w0 w bs F) (h : ∀ g w', St w0 w' ((g, t, cs) :: bs) F → K (a.put (some N) (.pointer (some ⟨g, 0, none⟩))) w')
 (ho : oi.op = .alloc t := by rfl) (hN : oi.dst = some N := by rfl)
 (hw : Region.wanted oi (yielded ops a.tmps) = true := by first | exact wanted_plain rfl | (refine wanted_on rfl ?_; simp [yielded]))
 (hrun : (execOp a.eval oi).run P w = .ok (.value (.pointer (some ⟨w.heap.size, 0, none⟩))) (w.alloc (.cells cs t (0, 0))) := by first | (go_simp; done) | (go_simp; rfl)) :
 if Region.wanted oi (yielded ops a.tmps) = true then Oper.wp P oi a w K Q else K (a.put oi.dst undef) w := by
 have _ := ho
 rw [if_pos hw]
 unfold Oper.wp
 rw [hrun]
 show K (a.put oi.dst _) _
 rw [hN]
 exact h _ _ (hSt.push (below_alloc (Below.refl _ _) _) (blk_new w _) rfl)
theorem ks_ (k : Nat) {p : Tmp} {vo : Operand} {c' : Array Value} {g : Nat} {t : TypeId} {cs : Array Value} {K : Act → World → Prop} (hSt : St w0 w bs F) (h : ∀ w', St w0 w' (bs.set k (g, t, c')) F → K a w')
 (ho : oi.op = .store t (.tmp p) vo := by rfl) (hN : oi.dst = none := by rfl) (hp : a.eval (.tmp p) = .pointer (some ⟨g, 0, none⟩) := by rfl) (e : bs[k]? = some (g, t, cs) := by rfl) (hv : a.eval vo = .agg c' := by rfl)
 (hw : Region.wanted oi (yielded ops a.tmps) = true := by first | exact wanted_plain rfl | (refine wanted_on rfl ?_; simp [yielded]))
 (hs : cs.size = c'.size := by rfl) (hii : (P.info? t).map (·.size) = some c'.size := by kernel_rfl) (h1 : c'.toList.all (·.oneCell') = true := by rfl) :
 if Region.wanted oi (yielded ops a.tmps) = true then Oper.wp P oi a w K Q else K (a.put oi.dst undef) w := by
 have hb := hSt.at_ k e
 have hrun : (execOp a.eval oi).run P w = .ok .skip (w.setCells g 0 c'.toList) := by
  unfold execOp
  simp only [ho, hp, hv, Sem.run_bind, Sem.run_pure, Result.andThen_ok, run_storeAt_mid w g 0 t c' (fun j hj => ⟨by rw [blk_cell hb]; simp; omega, blk_frozen hb _⟩) hii (by rw [← Array.all_toList]; exact h1)]
 rw [if_pos hw]
 unfold Oper.wp
 rw [hrun]
 show K (a.put oi.dst undef) _
 rw [hN]
 refine h _ (hSt.put k e (below_setCells _ _ _ hSt.below (hSt.ge k e)) ?_ (fun k hk => setCells_far _ _ _ k hk))
 have := blk_setCells (g := g) (t := t) c'.toList [] cs.toList w (by simpa using hb) (by simpa using hs)
 simpa using this
theorem rc_ (i : Nat) {rs : List Nat} (h : ∀ K' : Act → World → Prop, Shut (∀ a w, S w → (S w → wpAnyLast P md ops Q S ds fuel (l.setIfInBounds i true) a w) → K' a w) → if Region.wanted oi (yielded ops a.tmps) = true then Oper.wp P oi a w K' Q else K' (a.put oi.dst undef) w)
 (hs : AllReadyL P md ops Q S ds fuel l a w rs) (ho : ops[i]? = some oi := by rfl) (hd : i ∉ ds := by decide) : AllReadyL P md ops Q S ds fuel l a w (i :: rs) := AllReadyL.cons ho hd h hs
theorem rl_ (i : Nat) {rs : List Nat} (h : ∀ K' : Act → World → Prop, Shut (∀ a w, wpAnyLast P md ops Q S ds fuel (l.setIfInBounds i true) a w → K' a w) → if Region.wanted oi (yielded ops a.tmps) = true then Oper.wp P oi a w K' Q else K' (a.put oi.dst undef) w)
 (hs : AllReadyL P md ops Q S ds fuel l a w rs) (ho : ops[i]? = some oi := by rfl) (hd : i ∈ ds := by decide) : AllReadyL P md ops Q S ds fuel l a w (i :: rs) := AllReadyL.cons_last ho hd h hs
theorem re_ {rs : List Nat} (h : AllReadyL P md ops Q S ds fuel l a w rs) (hr : Region.ready md ops l = rs := by kernel_rfl) (hne : rs ≠ [] := by simp) : wpAnyLast P md ops Q S ds (fuel + 1) l a w := wpAnyLast_ready hr hne h
theorem so_ (i k : Nat) {p : Tmp} {vo : Operand} {c' : Array Value} {g : Nat} {t : TypeId} {cs : Array Value} (hSt : St w0 w bs F)
 (h : ∀ w', St w0 w' (bs.set k (g, t, c')) F → wpAnyLast P md ops Q S ds fuel (l.setIfInBounds i true) a w')
 (hi : ops[i]? = some oi := by rfl) (hN : oi.dst = none := by rfl) (hc : Region.ready md ops l = [i] := by kernel_rfl) (hd : i ∈ ds := by decide)
 (ho : oi.op = .store t (.tmp p) vo := by rfl) (hp : a.eval (.tmp p) = .pointer (some ⟨g, 0, none⟩) := by rfl) (e : bs[k]? = some (g, t, cs) := by rfl) (hv : a.eval vo = .agg c' := by rfl)
 (hw : Region.wanted oi (yielded ops a.tmps) = true := by first | exact wanted_plain rfl | (refine wanted_on rfl ?_; simp [yielded]))
 (hs : cs.size = c'.size := by rfl) (hii : (P.info? t).map (·.size) = some c'.size := by kernel_rfl) (h1 : c'.toList.all (·.oneCell') = true := by rfl) : wpAnyLast P md ops Q S ds (fuel + 1) l a w :=
 re_ (rl_ i (fun K hK => ks_ k hSt (fun w' hS' => hK.out _ _ (h w' hS')) ho hN hp e hv hw hs hii h1) AllReadyL.nil hi hd) hc (by simp)
end
end Go.Proofs.YtloccjkcmlkifaaDoor
end

section
/- The document's small functions, told of whole operations. -/
namespace Go.Proofs.YtloccjkcmlkifaaDoor
open Go.RowKit Go.Proofs.YtloccjkcmlkifaaDoor.PAll Go.Proofs.YtloccjkcmlkifaaDoorW.PrintWords

theorem rcopy_any (a : S41) (va : Value) (w : World) (ha : OpC w va a) (hf : fineOp a) : Calls Tryd.prog 22 #[.agg (opA a va)] w (IsOp w a) := by
 obtain ⟨A, c, rfl, h1, h2⟩ := ha
 exact (redraftref05_Copy.calls _ _ _ _ _ A c a.f3 _ _ _ _ _ _ _ _ _ _ _ _ w h2 h1 (copy_is a hf)).mono fun e w' ⟨v, he, hr, hb⟩ => ⟨v, he, hr, hb⟩
end Go.Proofs.YtloccjkcmlkifaaDoor
end

section
/- span.Through, and what the document makes of the same ranges: alike. -/
namespace Go.Proofs.YtloccjkcmlkifaaDoor
open Go.RowKit Go.Proofs.YtloccjkcmlkifaaDoor.PAll Go.Proofs.YtloccjkcmlkifaaDoorW.PrintWords

def Nrm : Int → List S94 → Prop
 | _, [] => True
 | p, r :: t => p < r.f0 ∧ r.f0 < r.f1 ∧ r.f1 ≤ 1048576 ∧ Nrm r.f1 t
theorem rng_nrm (l : List S94) : ∀ (d i : Nat), l.length = i + d → (rngFrom l d i).2 = 0 → Nrm (if 0 < i then (l.getD (i - 1) z94).f1 else -1) (l.drop i) := by
 intro d
 induction d with
 | zero => intro i h _; rw [List.drop_eq_nil_of_le (by omega)]; trivial
 | succ d ih =>
  intro i h h0
  have hi : i < l.length := by omega
  unfold rngFrom at h0
  rw [if_pos hi] at h0
  have hd : l.drop i = l.getD i z94 :: l.drop (i + 1) := by
   rw [List.drop_eq_getElem_cons hi, List.getD_eq_getElem?_getD, List.getElem?_eq_getElem hi]; rfl
  by_cases c1 : (l.getD i z94).f0 < 0 ∨ 1048576 < (l.getD i z94).f1 ∨ (l.getD i z94).f1 ≤ (l.getD i z94).f0
  · rw [if_pos c1] at h0; exact absurd h0 (by simp)
  · rw [if_neg c1] at h0
    by_cases c2 : 0 < i ∧ (l.getD i z94).f0 ≤ (l.getD (i - 1) z94).f1
    · rw [if_pos c2] at h0; exact absurd h0 (by simp)
    · rw [if_neg c2] at h0
      have := ih (i + 1) (by omega) h0
      rw [if_pos (by omega), Nat.add_sub_cancel] at this
      rw [hd]
      refine ⟨?_, by omega, by omega, this⟩
      by_cases hp : 0 < i
      · rw [if_pos hp]; have := fun h => c2 ⟨hp, h⟩; omega
      · rw [if_neg hp]; omega
theorem rng_ok {l : List S94} (h : (rngE l).2 = 0) : l.length ≤ 32768 ∧ Nrm (-1) l := by
 unfold rngE at h
 by_cases c : 32768 < l.length
 · rw [if_pos c] at h; exact absurd h (by decide)
 · rw [if_neg c] at h
   have := rng_nrm l l.length 0 (by omega) h
   exact ⟨by omega, by simpa using this⟩
theorem nrm_rng (l : List S94) : ∀ (d i : Nat), l.length = i + d → -1 ≤ (if 0 < i then (l.getD (i - 1) z94).f1 else -1) → Nrm (if 0 < i then (l.getD (i - 1) z94).f1 else -1) (l.drop i) → rngFrom l d i = (0, 0) := by
 intro d
 induction d with
 | zero => intro i h _ _; rfl
 | succ d ih =>
  intro i h hp h0
  have hi : i < l.length := by omega
  have hd : l.drop i = l.getD i z94 :: l.drop (i + 1) := by
   rw [List.drop_eq_getElem_cons hi, List.getD_eq_getElem?_getD, List.getElem?_eq_getElem hi]; rfl
  rw [hd] at h0
  obtain ⟨a1, a2, a3, a4⟩ := h0
  unfold rngFrom
  rw [if_pos hi, if_neg (by omega)]
  have c2 : ¬ (0 < i ∧ (l.getD i z94).f0 ≤ (l.getD (i - 1) z94).f1) := by
   rintro ⟨q1, q2⟩
   rw [if_pos q1] at a1
   omega
  rw [if_neg c2]
  refine ih (i + 1) (by omega) ?_ ?_
  · rw [if_pos (by omega), Nat.add_sub_cancel]; omega
  · rw [if_pos (by omega), Nat.add_sub_cancel]; exact a4
theorem ok_rng {l : List S94} (hl : l.length ≤ 32768) (h : Nrm (-1) l) : rngE l = (0, 0) := by
 unfold rngE
 rw [if_neg (by omega)]
 exact nrm_rng l l.length 0 (by omega) (by simp) (by simpa using h)
theorem Nrm.mono {p q : Int} : ∀ {l : List S94}, Nrm p l → q ≤ p → Nrm q l
 | [], _, _ => trivial
 | _ :: _, h, hq => ⟨by have := h.1; omega, h.2⟩
theorem Nrm.gap {p : Int} : ∀ {l : List S94}, Nrm p l → Gap l
 | [], _ => trivial
 | [_], h => h.2.1
 | _ :: s :: t, h => ⟨h.2.1, h.2.2.2.1, Nrm.gap (l := s :: t) h.2.2.2⟩

def sp (p n : Int) (r : S94) : List S94 := if r.f1 ≤ p then [r] else if p ≤ r.f0 then [⟨r.f0 + n, r.f1 + n⟩] else [⟨r.f0, p⟩, ⟨p + n, r.f1 + n⟩]
def thrS (p n : Int) (l : List S94) : List S94 := l.flatMap (sp p n)
def sh (p n x : Int) : Int := if x ≤ p then x else x + n
theorem sp_len (p n : Int) (r : S94) : (sp p n r).length ≤ 2 := by
 unfold sp
 split
 · simp
 · split <;> simp
theorem thr_len (p n : Int) (l : List S94) : (thrS p n l).length ≤ 2 * l.length := by
 induction l with
 | nil => simp [thrS]
 | cons r t ih =>
  have := sp_len p n r
  simp only [thrS, List.flatMap_cons, List.length_append, List.length_cons] at *
  omega
def lastLe (acc : List S94) (q : Int) : Prop := 0 < acc.length → (acc.getD (acc.length - 1) z94).f1 ≤ q
theorem lastLe_snoc (acc : List S94) (r : S94) (q : Int) (h : r.f1 ≤ q) : lastLe (acc ++ [r]) q := fun _ => by
 rw [List.getD_eq_getElem?_getD]
 simpa using h
theorem add_no (acc : List S94) (lo hi : Int) (h : hi ≤ lo) : span_add.f acc lo hi = some acc := by
 unfold span_add.f
 rw [if_pos h]
theorem add_app (acc : List S94) (lo hi q : Int) (hq : lastLe acc q) (h1 : q < lo) (h2 : lo < hi) (hl : acc.length ≤ 4398046511104) : span_add.f acc lo hi = some (acc ++ [⟨lo, hi⟩]) := by
 unfold span_add.f
 have hl' : acc.length < 8796093022208 := by omega
 rw [if_neg (show ¬ lo ≥ hi by omega)]
 by_cases h : 0 < acc.length
 · have w : wrap64 ((acc.length : Int) - 1) = ((acc.length - 1 : Nat) : Int) := by rw [wrap_id (by omega) (by omega)]; omega
   have e : rd_T94 acc ((acc.length - 1 : Nat) : Int) = acc.getD (acc.length - 1) z94 := by unfold rd_T94; rw [Int.toNat_natCast]
   have := hq h
   rw [if_pos (show (acc.length : Int) > 0 by omega), w, if_pos (by omega), if_pos (by omega), e, if_neg (by omega), if_pos hl']
 · rw [if_neg (show ¬ (acc.length : Int) > 0 by omega), if_pos hl']
def bnd (l : List S94) : List S94 × Int := if 32768 < l.length then ([], 21) else (l, 0)
theorem bnd_f (l : List S94) : span_bounded.f l = some (bnd l) := by
 unfold span_bounded.f bnd
 by_cases h : 32768 < l.length
 · rw [if_pos (show (l.length : Int) > 32768 by omega), if_pos h]
 · rw [if_neg (show ¬ (l.length : Int) > 32768 by omega), if_neg h]
theorem thr_loop (L : List S94) (p n : Int) (hp : 0 ≤ p ∧ p ≤ 1048576) (hn : 1 ≤ n ∧ n ≤ 1048576) (hL : L.length ≤ 1048576) : ∀ (d k i : Nat) (acc : List S94) (x : Int), L.length = i + d → -1 ≤ x → Nrm x (L.drop i) → lastLe acc (sh p n x) → acc.length ≤ 2 * i → d + 1 ≤ k →
 span_Through.l0 k p n acc L (L.length : Int) (i : Int) = some (bnd (acc ++ thrS p n (L.drop i))) := by
 intro d
 induction d with
 | zero =>
  intro k i acc x h1 hx hN hla hal hk
  obtain ⟨k, rfl⟩ : ∃ m, k = m + 1 := ⟨k - 1, by omega⟩
  rw [span_Through.l0, if_neg (by omega), bnd_f, List.drop_eq_nil_of_le (by omega)]
  simp [thrS]
 | succ d ih =>
  intro k i acc x h1 hx hN hla hal hk
  obtain ⟨k, rfl⟩ : ∃ m, k = m + 1 := ⟨k - 1, by omega⟩
  have hi : i < L.length := by omega
  have w : wrap64 ((i : Int) + 1) = ((i + 1 : Nat) : Int) := by clear ih hk hN hla; rw [wrap_id (by omega) (by omega)]; omega
  obtain ⟨r, hr⟩ : ∃ r, r = L.getD i z94 := ⟨_, rfl⟩
  have hd : L.drop i = r :: L.drop (i + 1) := by
   rw [hr, List.drop_eq_getElem_cons hi, List.getD_eq_getElem?_getD, List.getElem?_eq_getElem hi]; rfl
  have e : rd_T94 L (i : Int) = r := by unfold rd_T94; rw [Int.toNat_natCast, hr]
  rw [hd] at hN
  obtain ⟨b1, b2, b3, b4⟩ := hN
  have w2 : wrap64 (mx r.f0 p + n) = mx r.f0 p + n := by unfold mx; split <;> exact wrap_id (by omega) (by omega)
  have w3 : wrap64 (r.f1 + n) = r.f1 + n := wrap_id (by omega) (by omega)
  have hth : thrS p n (L.drop i) = sp p n r ++ thrS p n (L.drop (i + 1)) := by rw [hd]; rfl
  rw [span_Through.l0, if_pos (by omega), if_pos (by omega), if_pos (by omega), e, w2, w3, w, hth]
  have hsx : sh p n x < r.f0 ∨ p ≤ r.f0 ∧ sh p n x < r.f0 + n := by unfold sh; split <;> omega
  unfold sp
  by_cases c1 : r.f1 ≤ p
  · have m1 : mn r.f1 p = r.f1 := by unfold mn; rw [if_neg (by omega)]
    have m2 : mx r.f0 p = p := by unfold mx; rw [if_pos (by omega)]
    rw [m1, m2, add_app acc r.f0 r.f1 (sh p n x) hla (by omega) b2 (by omega)]
    simp only [Option.bind_some]
    rw [add_no _ _ _ (by omega)]
    simp only [Option.bind_some]
    rw [if_pos c1, ih k (i + 1) (acc ++ [⟨r.f0, r.f1⟩]) r.f1 (by omega) (by omega) b4 (lastLe_snoc _ _ _ (by unfold sh; rw [if_pos c1]; exact Int.le_refl _)) (by simp; omega) (by omega), List.append_assoc]
  · rw [if_neg c1]
    have hsr : r.f1 + n ≤ sh p n r.f1 := by unfold sh; rw [if_neg c1]; exact Int.le_refl _
    by_cases c2 : p ≤ r.f0
    · have m1 : mn r.f1 p = p := by unfold mn; rw [if_pos (by omega)]
      have m2 : mx r.f0 p = r.f0 := by unfold mx; split <;> omega
      rw [m1, m2, add_no _ _ _ c2]
      simp only [Option.bind_some]
      rw [add_app acc (r.f0 + n) (r.f1 + n) (sh p n x) hla (by omega) (by omega) (by omega)]
      simp only [Option.bind_some]
      rw [if_pos c2, ih k (i + 1) (acc ++ [⟨r.f0 + n, r.f1 + n⟩]) r.f1 (by omega) (by omega) b4 (lastLe_snoc _ _ _ hsr) (by simp; omega) (by omega), List.append_assoc]
    · have m1 : mn r.f1 p = p := by unfold mn; rw [if_pos (by omega)]
      have m2 : mx r.f0 p = p := by unfold mx; rw [if_pos (by omega)]
      rw [m1, m2, add_app acc r.f0 p (sh p n x) hla (by omega) (by omega) (by omega)]
      simp only [Option.bind_some]
      rw [add_app (acc ++ [(⟨r.f0, p⟩ : S94)]) (p + n) (r.f1 + n) p (lastLe_snoc _ _ _ (Int.le_refl _)) (by omega) (by omega) (by simp; omega)]
      simp only [Option.bind_some]
      rw [if_neg c2, ih k (i + 1) (acc ++ [(⟨r.f0, p⟩ : S94)] ++ [(⟨p + n, r.f1 + n⟩ : S94)]) r.f1 (by omega) (by omega) b4 (lastLe_snoc _ _ _ hsr) (by simp; omega) (by omega)]
      simp
def thrE (l : List S94) (p n : Int) : List S94 × Int := if 0 < l.length ∧ p < lastHi l ∧ 1048576 < lastHi l + n then ([], 24) else bnd (thrS p n l)
theorem through_is (l : List S94) (p n : Int) (hl : (rngE l).2 = 0) (hp : 0 ≤ p ∧ p ≤ 1048576) (hn : 1 ≤ n ∧ n ≤ 1048576) (hh : -1048576 ≤ lastHi l ∧ lastHi l ≤ 1048576) : ∃ k, span_Through.f k l p n = some (thrE l p n) := by
 obtain ⟨hlen, hN⟩ := rng_ok hl
 obtain ⟨K, hK⟩ := span_chk l
 dsimp only at hK
 obtain ⟨k, hk⟩ : ∃ k, k = K + l.length + 8 := ⟨_, rfl⟩
 refine ⟨k + 2, ?_⟩
 have ho : ∀ x : Int, 0 ≤ x ∧ x ≤ 1048576 → span_outside.f x = some false := fun x hx => by
  unfold span_outside.f
  rw [if_neg (by omega), decide_eq_false (by omega)]
 have hj1 : span_Through.j1 (k + 1) l p n = some (bnd (thrS p n l)) := by
  rw [span_Through.j1]
  have := thr_loop l p n hp hn (by omega) l.length k 0 [] (-1) (by omega) (by omega) (by simpa using hN) (fun h => absurd h (by simp)) (by simp) (by omega)
  simpa using this
 unfold span_Through.f
 rw [hK (k + 2) (by omega)]
 simp only [Option.bind_some]
 rw [if_pos hl, ho p hp]
 simp only [Option.bind_some]
 rw [if_neg (by simp), ho n ⟨by omega, hn.2⟩]
 simp only [Option.bind_some]
 rw [show k + 2 = (k + 1) + 1 from rfl, span_Through.j0, if_neg (by simp)]
 unfold thrE
 by_cases h0 : 0 < l.length
 · have w : wrap64 ((l.length : Int) - 1) = ((l.length - 1 : Nat) : Int) := by rw [wrap_id (by omega) (by omega)]; omega
   have e : (rd_T94 l ((l.length - 1 : Nat) : Int)).f1 = lastHi l := by unfold rd_T94 lastHi; rw [Int.toNat_natCast]
   have w2 : wrap64 (lastHi l + n) = lastHi l + n := wrap_id (by omega) (by omega)
   rw [if_pos (show (l.length : Int) > 0 by omega), w, if_pos (by omega), if_pos (by omega), e, w2]
   by_cases c1 : p < lastHi l
   · rw [if_pos (show lastHi l > p from c1)]
     by_cases c2 : 1048576 < lastHi l + n
     · rw [if_pos (show lastHi l + n > 1048576 from c2), if_pos ⟨h0, c1, c2⟩]
     · rw [if_neg (show ¬ lastHi l + n > 1048576 from c2), if_neg (fun h => c2 h.2.2), hj1]
   · rw [if_neg (show ¬ lastHi l > p from c1), if_neg (fun h => c1 h.2.1), hj1]
 · rw [if_neg (show ¬ (l.length : Int) > 0 by omega), if_neg (fun h => h0 h.1), hj1]
end Go.Proofs.YtloccjkcmlkifaaDoor
end

section
/- What a spec names: numbers brought into a row, and ranges of cells (at least one). -/
namespace Go.Proofs.YtloccjkcmlkifaaDoor
open Go.RowKit Go.Proofs.YtloccjkcmlkifaaDoor.PAll Go.Proofs.YtloccjkcmlkifaaDoorW.PrintWords

theorem within_is (x n : Int) (hn : n ≤ 1048576) : ∃ r, redraftlaw05_within.f x n = some r ∧ 0 ≤ r ∧ (1 ≤ n → r < n) ∧ (n < 1 → r = 0) := by
 unfold redraftlaw05_within.f
 by_cases c : n < 1
 · rw [if_pos c]; exact ⟨0, rfl, by omega, by omega, fun _ => rfl⟩
 · rw [if_neg c, if_neg (by omega)]
   have h1 := Int.tmod_lt_of_pos x (show 0 < n by omega)
   have h2 := Int.lt_tmod_of_pos x (show 0 < n by omega)
   by_cases c2 : Int.tmod x n < 0
   · rw [if_pos c2, wrap_id (by omega) (by omega)]
     exact ⟨_, rfl, by omega, by omega, by omega⟩
   · rw [if_neg c2]
     exact ⟨_, rfl, by omega, by omega, by omega⟩
def Acc (acc : List S94) (i : Int) : Prop := acc = [] ∨ ∃ p s, acc = p ++ [s] ∧ Nrm (-1) (p ++ [s]) ∧ s.f1 ≤ i
def Marked (n : Nat) (bs : List Bool) : Prop := ∃ q : Nat, q < n ∧ bs.getD q false = true
theorem Marked.set {n : Nat} {bs : List Bool} (h : Marked n bs) (j : Nat) : Marked n (bs.set j true) := by
 obtain ⟨q, h1, h2⟩ := h
 refine ⟨q, h1, ?_⟩
 rw [List.getD_eq_getElem?_getD, List.getElem?_set]
 by_cases c : j = q
 · rw [if_pos c]
   by_cases c2 : j < bs.length
   · rw [if_pos c2]; rfl
   · rw [List.getD_eq_getElem?_getD, List.getElem?_eq_none (by omega)] at h2; simp at h2
 · rw [if_neg c, ← List.getD_eq_getElem?_getD]; exact h2
theorem Marked.mk {n : Nat} {bs : List Bool} (j : Nat) (hj : j < n) (hb : n < bs.length) : Marked n (bs.set j true) := by
 refine ⟨j, hj, ?_⟩
 rw [List.getD_eq_getElem?_getD, List.getElem?_set, if_pos rfl, if_pos (by omega)]; rfl
def PickOK (r : List S94) (n : Nat) : Prop := r ≠ [] ∧ Nrm (-1) r ∧ ∃ p s, r = p ++ [s] ∧ s.f1 ≤ (n : Int)
theorem Acc.ok {r : List S94} {n : Nat} (h : Acc r n) (hne : r ≠ []) : PickOK r n := by
 rcases h with h | ⟨p, s, h, h5, h6⟩
 · exact absurd h hne
 · exact ⟨hne, h ▸ h5, p, s, h, h6⟩
end Go.Proofs.YtloccjkcmlkifaaDoor
end

section
/- xform.include, told of whole operations. -/
namespace Go.Proofs.YtloccjkcmlkifaaDoor
open Go.RowKit Go.Proofs.YtloccjkcmlkifaaDoor.PAll Go.Proofs.YtloccjkcmlkifaaDoorW.PrintWords

def incP (a b : S41) (e : Bool) (r : List S94 × Int) : S41 × Int :=
 if clashB a b = true then (z41, 50) else if b.f0.f1 ≠ 1 then (a, 0)
 else if a.f0.f1 = 1 then (if b.f1 < a.f1 ∨ (b.f1 = a.f1 ∧ e = true) then moveE a (a.f1 + wid b) else (a, 0))
 else if a.f0.f1 = 2 ∨ a.f0.f1 = 3 then rangedE a r else (a, 0)

set_option maxHeartbeats 4000000 in
theorem include_any (a b : S41) (e : Bool) (va vb : Value) (r : List S94 × Int) (w : World) (hG : GW w) (ha : OpC w va a) (hb : OpC w vb b) (hl : a.f3.length ≤ 1048576)
 (hp : 0 ≤ a.f1 ∧ a.f1 ≤ 1048576) (hwa : 0 ≤ wid a ∧ wid a ≤ 1048576) (hwb : 0 ≤ wid b ∧ wid b ≤ 1048576)
 (hr : a.f0.f1 = 2 ∨ a.f0.f1 = 3 → b.f0.f1 = 1 → ∃ k, span_Through.f k a.f3 b.f1 (wid b) = some r) :
 Calls Tryd.prog 56 #[.agg (opA a va), .agg (opA b vb), .bool e] w (RetOp w (incP a b e r)) := by
 obtain ⟨A, c, rfl, h1, h2⟩ := ha
 obtain ⟨B, d, rfl, h3, h4⟩ := hb
 have S := Aside0.mk (St.init w (F := fun _ => True) (fun _ _ => trivial))
 have H1 := Aside0.mk h1; have H2 := Aside0.mk h2
 have HA := Aside0.mk (opC_mk h1 h2); have HB := Aside0.mk (opC_mk h3 h4)
 have HG := Aside0.mk hG
 clear h1 h2 h3 h4 hG
 unfold incP
 by_cases hcl : clashB a b = true
 · rw [if_pos hcl]
   have HC := Aside0.mk hcl
   clear hcl hr
   go_enter Tryd.func56, Tryd.ntmps56
   go_wp2_with (first | ((with_reducible refine gate_box rfl ?_); refine ev_box S ?_; clear S; intro _ _ S) | ((with_reducible refine gate_new rfl ?_); refine ev_new S 41 zA ?_; clear S; intro _ _ S) | ((with_reducible refine gate_load rfl ?_); first | refine ev_load S ?_ | refine ev_fld S ?_) | ((with_reducible refine gate_st rfl ?_); refine ev_store S ?_; clear S; intro _ S) | (go_at_call 71; (with_reducible refine (clash_any a b _ _ _ _ (HA.out.below S.out.below) (HB.out.below S.out.below) HC.out).mono ?_); rintro e w7 ⟨rfl, hb⟩; replace S := Aside0.mk (S.out.step hb); clear hb))
   exact bodyPost_ret (results_ct rfl _ _ _ 41 zA (0, 0) _ rfl (S.out.at_ 0 rfl) Tryd.underlying41 rfl (by kernel_rfl)) rfl ⟨.slice none 0 0, rfl, opR_nil _ _, S.out.below⟩
 rw [if_neg hcl]
 have HC : Aside0 (clashB a b = false) := ⟨by simpa using hcl⟩
 clear hcl
 by_cases hk : b.f0.f1 = 1
 case neg =>
  rw [if_pos hk]
  have hk' : (b.f0.f1 != 1) = true := bne_iff_ne.mpr hk
  clear hk hr
  go_enter Tryd.func56, Tryd.ntmps56
  go_wp2_with (first | ((with_reducible refine gate_box rfl ?_); refine ev_box S ?_; clear S; intro _ _ S) | ((with_reducible refine gate_new rfl ?_); refine ev_new S 41 zA ?_; clear S; intro _ _ S) | ((with_reducible refine gate_load rfl ?_); first | refine ev_load S ?_ | refine ev_fld S ?_) | ((with_reducible refine gate_st rfl ?_); refine ev_store S ?_; clear S; intro _ S) | (go_at_call 71; (with_reducible refine (clash_any a b _ _ _ _ (HA.out.below S.out.below) (HB.out.below S.out.below) HC.out).mono ?_); rintro e w7 ⟨rfl, hb⟩; replace S := Aside0.mk (S.out.step hb); clear hb) | (go_at_call 64; (with_reducible refine (clone_any a _ _ (HA.out.below S.out.below) hl).mono ?_); rintro e w7 ⟨v, rfl, hR, hb⟩; obtain ⟨Ao, co, rfl⟩ := hR.slice; replace S := Aside0.mk (S.out.addOp hb hR); clear hb hR))
  exact bodyPost_ret (results_ct rfl _ _ _ 41 _ (0, 0) _ rfl (S.out.at_ 0 rfl) Tryd.underlying41 rfl (by kernel_rfl)) rfl ⟨_, rfl, S.out.now.2, S.out.below⟩
 rw [if_neg (show ¬ b.f0.f1 ≠ 1 from fun h => h hk)]
 have hk' : (b.f0.f1 != 1) = false := bne_eq_false_iff_eq.mpr hk
 have HK := Aside0.mk hk
 clear hk
 by_cases ka : a.f0.f1 = 1
 · rw [if_pos ka]
   have ka' : (a.f0.f1 == 1) = true := beq_iff_eq.mpr ka
   clear ka hr
   by_cases hlt : b.f1 < a.f1 ∨ (b.f1 = a.f1 ∧ e = true)
   · rw [if_pos hlt]
     have HW := Aside0.mk (show IntKind.i64.wrap (a.f1 + wid b) = a.f1 + wid b from IntWalk.i64_in _ (by omega))
     have HM := Aside0.mk (show (-4611686018427387904 ≤ a.f1 + wid b ∧ a.f1 + wid b ≤ 4611686018427387904) ∧ (-4611686018427387904 ≤ wid a ∧ wid a ≤ 4611686018427387000) by omega)
     clear hp hwa hwb
     by_cases hlt' : b.f1 < a.f1
     · have h1 : decide (b.f1 < a.f1) = true := decide_eq_true hlt'
       clear hlt hlt'
       have hw := HW.out
       go_enter Tryd.func56, Tryd.ntmps56
       go_wp2_with (first | ((with_reducible refine gate_box rfl ?_); refine ev_box S ?_; clear S; intro _ _ S) | ((with_reducible refine gate_new rfl ?_); refine ev_new S 41 zA ?_; clear S; intro _ _ S) | ((with_reducible refine gate_load rfl ?_); first | refine ev_load S ?_ | refine ev_fld S ?_) | ((with_reducible refine gate_st rfl ?_); refine ev_store S ?_; clear S; intro _ S) | (go_at_call 71; (with_reducible refine (clash_any a b _ _ _ _ (HA.out.below S.out.below) (HB.out.below S.out.below) HC.out).mono ?_); rintro e w7 ⟨rfl, hb⟩; replace S := Aside0.mk (S.out.step hb); clear hb) | (go_at_call 53; (with_reducible refine (width_any b _ _ (GW.below HG.out S.out.below) (HB.out.below S.out.below)).mono ?_); rintro e w7 ⟨rfl, hb⟩; replace S := Aside0.mk (S.out.step hb); clear hb) | (go_at_call 72; (with_reducible refine (moved_any a _ (a.f1 + wid b) _ (GW.below HG.out S.out.below) (HA.out.below S.out.below) HM.out.1 HM.out.2).mono ?_); rintro e w7 ⟨v, rfl, hR, hb⟩; obtain ⟨Ao, co, rfl⟩ := hR.slice; replace S := Aside0.mk (S.out.addOp hb hR); clear hb hR))
       exact bodyPost_ret (results_ct rfl _ _ _ 41 _ (0, 0) _ rfl (S.out.at_ 0 rfl) Tryd.underlying41 rfl (by kernel_rfl)) rfl ⟨_, rfl, S.out.now.2, S.out.below⟩
     · have h1 : decide (b.f1 < a.f1) = false := decide_eq_false hlt'
       obtain ⟨h2, rfl⟩ := hlt.resolve_left hlt'
       have h2' : (b.f1 == a.f1) = true := beq_iff_eq.mpr h2
       clear hlt hlt' h2
       have hw := HW.out
       go_enter Tryd.func56, Tryd.ntmps56
       go_wp2_with (first | ((with_reducible refine gate_box rfl ?_); refine ev_box S ?_; clear S; intro _ _ S) | ((with_reducible refine gate_new rfl ?_); refine ev_new S 41 zA ?_; clear S; intro _ _ S) | ((with_reducible refine gate_load rfl ?_); first | refine ev_load S ?_ | refine ev_fld S ?_) | ((with_reducible refine gate_st rfl ?_); refine ev_store S ?_; clear S; intro _ S) | (go_at_call 71; (with_reducible refine (clash_any a b _ _ _ _ (HA.out.below S.out.below) (HB.out.below S.out.below) HC.out).mono ?_); rintro e w7 ⟨rfl, hb⟩; replace S := Aside0.mk (S.out.step hb); clear hb) | (go_at_call 53; (with_reducible refine (width_any b _ _ (GW.below HG.out S.out.below) (HB.out.below S.out.below)).mono ?_); rintro e w7 ⟨rfl, hb⟩; replace S := Aside0.mk (S.out.step hb); clear hb) | (go_at_call 72; (with_reducible refine (moved_any a _ (a.f1 + wid b) _ (GW.below HG.out S.out.below) (HA.out.below S.out.below) HM.out.1 HM.out.2).mono ?_); rintro e w7 ⟨v, rfl, hR, hb⟩; obtain ⟨Ao, co, rfl⟩ := hR.slice; replace S := Aside0.mk (S.out.addOp hb hR); clear hb hR))
       exact bodyPost_ret (results_ct rfl _ _ _ 41 _ (0, 0) _ rfl (S.out.at_ 0 rfl) Tryd.underlying41 rfl (by kernel_rfl)) rfl ⟨_, rfl, S.out.now.2, S.out.below⟩
   · rw [if_neg hlt]
     clear hp hwa hwb
     have h1 : decide (b.f1 < a.f1) = false := decide_eq_false (fun h => hlt (.inl h))
     by_cases h2 : b.f1 = a.f1
     · have h2' : (b.f1 == a.f1) = true := beq_iff_eq.mpr h2
       have he : e = false := by
        cases e with
        | false => rfl
        | true => exact absurd (.inr ⟨h2, rfl⟩) hlt
       subst he
       clear hlt h2
       go_enter Tryd.func56, Tryd.ntmps56
       go_wp2_with (first | ((with_reducible refine gate_box rfl ?_); refine ev_box S ?_; clear S; intro _ _ S) | ((with_reducible refine gate_new rfl ?_); refine ev_new S 41 zA ?_; clear S; intro _ _ S) | ((with_reducible refine gate_load rfl ?_); first | refine ev_load S ?_ | refine ev_fld S ?_) | ((with_reducible refine gate_st rfl ?_); refine ev_store S ?_; clear S; intro _ S) | (go_at_call 71; (with_reducible refine (clash_any a b _ _ _ _ (HA.out.below S.out.below) (HB.out.below S.out.below) HC.out).mono ?_); rintro e w7 ⟨rfl, hb⟩; replace S := Aside0.mk (S.out.step hb); clear hb) | (go_at_call 53; (with_reducible refine (width_any b _ _ (GW.below HG.out S.out.below) (HB.out.below S.out.below)).mono ?_); rintro e w7 ⟨rfl, hb⟩; replace S := Aside0.mk (S.out.step hb); clear hb) | (go_at_call 64; (with_reducible refine (clone_any a _ _ (HA.out.below S.out.below) hl).mono ?_); rintro e w7 ⟨v, rfl, hR, hb⟩; obtain ⟨Ao, co, rfl⟩ := hR.slice; replace S := Aside0.mk (S.out.addOp hb hR); clear hb hR))
       exact bodyPost_ret (results_ct rfl _ _ _ 41 _ (0, 0) _ rfl (S.out.at_ 0 rfl) Tryd.underlying41 rfl (by kernel_rfl)) rfl ⟨_, rfl, S.out.now.2, S.out.below⟩
     · have h2' : (b.f1 == a.f1) = false := beq_eq_false_iff_ne.mpr h2
       clear hlt h2
       go_enter Tryd.func56, Tryd.ntmps56
       go_wp2_with (first | ((with_reducible refine gate_box rfl ?_); refine ev_box S ?_; clear S; intro _ _ S) | ((with_reducible refine gate_new rfl ?_); refine ev_new S 41 zA ?_; clear S; intro _ _ S) | ((with_reducible refine gate_load rfl ?_); first | refine ev_load S ?_ | refine ev_fld S ?_) | ((with_reducible refine gate_st rfl ?_); refine ev_store S ?_; clear S; intro _ S) | (go_at_call 71; (with_reducible refine (clash_any a b _ _ _ _ (HA.out.below S.out.below) (HB.out.below S.out.below) HC.out).mono ?_); rintro e w7 ⟨rfl, hb⟩; replace S := Aside0.mk (S.out.step hb); clear hb) | (go_at_call 53; (with_reducible refine (width_any b _ _ (GW.below HG.out S.out.below) (HB.out.below S.out.below)).mono ?_); rintro e w7 ⟨rfl, hb⟩; replace S := Aside0.mk (S.out.step hb); clear hb) | (go_at_call 64; (with_reducible refine (clone_any a _ _ (HA.out.below S.out.below) hl).mono ?_); rintro e w7 ⟨v, rfl, hR, hb⟩; obtain ⟨Ao, co, rfl⟩ := hR.slice; replace S := Aside0.mk (S.out.addOp hb hR); clear hb hR))
       exact bodyPost_ret (results_ct rfl _ _ _ 41 _ (0, 0) _ rfl (S.out.at_ 0 rfl) Tryd.underlying41 rfl (by kernel_rfl)) rfl ⟨_, rfl, S.out.now.2, S.out.below⟩
 · rw [if_neg ka]
   have ka' : (a.f0.f1 == 1) = false := beq_eq_false_iff_ne.mpr ka
   clear ka hp
   by_cases kh : a.f0.f1 = 2 ∨ a.f0.f1 = 3
   · rw [if_pos kh]
     obtain ⟨k, hk⟩ := hr kh HK.out
     have HT := Aside0.mk hk
     have H5 : (a.f0.f1 == 2) = true ∨ ((a.f0.f1 == 2) = false) ∧ (a.f0.f1 == 3) = true := by
      rcases kh with h | h
      · exact .inl (by simp [h])
      · exact .inr ⟨by simp [h], by simp [h]⟩
     clear hr hk kh hwa hwb
     rcases H5 with k2 | ⟨k2, k3⟩
     all_goals
      go_enter Tryd.func56, Tryd.ntmps56
      go_wp2_with (first | ((with_reducible refine gate_box rfl ?_); refine ev_box S ?_; clear S; intro _ _ S) | ((with_reducible refine gate_new rfl ?_); refine ev_new S 41 zA ?_; clear S; intro _ _ S) | ((with_reducible refine gate_load rfl ?_); first | refine ev_load S ?_ | refine ev_fld S ?_) | ((with_reducible refine gate_st rfl ?_); refine ev_store S ?_; clear S; intro _ S) | (go_at_call 71; (with_reducible refine (clash_any a b _ _ _ _ (HA.out.below S.out.below) (HB.out.below S.out.below) HC.out).mono ?_); rintro e w7 ⟨rfl, hb⟩; replace S := Aside0.mk (S.out.step hb); clear hb) | (go_at_call 53; (with_reducible refine (width_any b _ _ (GW.below HG.out S.out.below) (HB.out.below S.out.below)).mono ?_); rintro e w7 ⟨rfl, hb⟩; replace S := Aside0.mk (S.out.step hb); clear hb) | (go_at_call 73; (with_reducible refine (span_Through.calls k A c a.f3 b.f1 (wid b) r.1 r.2 _ (Kd.C_below H2.out S.out.below) H1.out HT.out).mono ?_); rintro e w7 ⟨v, rfl, hR, hb⟩; obtain ⟨Ao, co, rfl⟩ := Kd.R_slice hR; replace S := Aside0.mk (S.out.addR hb hR); clear hb hR) | (go_at_call 74; (with_reducible refine (ranged_any a _ r _ w _ _ _ S.out ?hbs HA.out S.out.now.2).mono ?_); (case hbs => simp [k94_E]); rintro e w7 ⟨v, rfl, ⟨Ao, co, rfl⟩, hS⟩; replace S := Aside0.mk hS; clear hS))
      exact bodyPost_ret (results_ct rfl _ _ _ 41 _ (0, 0) _ rfl (S.out.at_ 0 rfl) Tryd.underlying41 rfl (by kernel_rfl)) rfl ⟨_, rfl, S.out.now.2, S.out.below⟩
   · rw [if_neg kh]
     have k2 : (a.f0.f1 == 2) = false := beq_eq_false_iff_ne.mpr (fun h => kh (.inl h))
     have k3 : (a.f0.f1 == 3) = false := beq_eq_false_iff_ne.mpr (fun h => kh (.inr h))
     clear kh hr hwa hwb
     go_enter Tryd.func56, Tryd.ntmps56
     go_wp2_with (first | ((with_reducible refine gate_box rfl ?_); refine ev_box S ?_; clear S; intro _ _ S) | ((with_reducible refine gate_new rfl ?_); refine ev_new S 41 zA ?_; clear S; intro _ _ S) | ((with_reducible refine gate_load rfl ?_); first | refine ev_load S ?_ | refine ev_fld S ?_) | ((with_reducible refine gate_st rfl ?_); refine ev_store S ?_; clear S; intro _ S) | (go_at_call 71; (with_reducible refine (clash_any a b _ _ _ _ (HA.out.below S.out.below) (HB.out.below S.out.below) HC.out).mono ?_); rintro e w7 ⟨rfl, hb⟩; replace S := Aside0.mk (S.out.step hb); clear hb) | (go_at_call 53; (with_reducible refine (width_any b _ _ (GW.below HG.out S.out.below) (HB.out.below S.out.below)).mono ?_); rintro e w7 ⟨rfl, hb⟩; replace S := Aside0.mk (S.out.step hb); clear hb) | (go_at_call 64; (with_reducible refine (clone_any a _ _ (HA.out.below S.out.below) hl).mono ?_); rintro e w7 ⟨v, rfl, hR, hb⟩; obtain ⟨Ao, co, rfl⟩ := hR.slice; replace S := Aside0.mk (S.out.addOp hb hR); clear hb hR))
     exact bodyPost_ret (results_ct rfl _ _ _ 41 _ (0, 0) _ rfl (S.out.at_ 0 rfl) Tryd.underlying41 rfl (by kernel_rfl)) rfl ⟨_, rfl, S.out.now.2, S.out.below⟩
end Go.Proofs.YtloccjkcmlkifaaDoor
end

section
/- What the document finds of ranges behind an insert is what span.Through makes of them; an include of what is right is right. -/
namespace Go.Proofs.YtloccjkcmlkifaaDoor
open Go.RowKit Go.Proofs.YtloccjkcmlkifaaDoor.PAll Go.Proofs.YtloccjkcmlkifaaDoorW.PrintWords

def NrmB (B : Int) : Int → List S94 → Prop
 | _, [] => True
 | p, r :: t => p < r.f0 ∧ r.f0 < r.f1 ∧ r.f1 ≤ B ∧ NrmB B r.f1 t
theorem NrmB.mono {B p q : Int} : ∀ {l : List S94}, NrmB B p l → q ≤ p → NrmB B q l
 | [], _, _ => trivial
 | _ :: _, h, hq => ⟨by have := h.1; omega, h.2⟩
theorem NrmB.gap {B p : Int} : ∀ {l : List S94}, NrmB B p l → Gap l
 | [], _ => trivial
 | [_], h => h.2.1
 | _ :: s :: t, h => ⟨h.2.1, h.2.2.2.1, NrmB.gap (l := s :: t) h.2.2.2⟩
theorem NrmB.nrm {B p : Int} : ∀ {l : List S94}, NrmB B p l → (∀ r ∈ l, r.f1 ≤ 1048576) → Nrm p l
 | [], _, _ => trivial
 | r :: t, h, hb => ⟨h.1, h.2.1, hb r (by simp), NrmB.nrm h.2.2.2 (fun s hs => hb s (by simp [hs]))⟩
theorem NrmB.le_last {B p : Int} : ∀ {l : List S94}, NrmB B p l → ∀ r ∈ l, r.f1 ≤ lastHi l
 | [r], _, s, hs => by
  obtain rfl : s = r := by simpa using hs
  exact Int.le_refl _
 | r :: u :: t, h, s, hs => by
  have e : lastHi (r :: u :: t) = lastHi (u :: t) := rfl
  rw [e]
  rcases List.mem_cons.1 hs with rfl | hs
  · have h1 := NrmB.le_last (l := u :: t) h.2.2.2 u (by simp)
    have h2 := h.2.2.2.1
    have h3 := h.2.2.2.2.1
    omega
  · exact NrmB.le_last (l := u :: t) h.2.2.2 s hs
theorem thrS_nrm (p n : Int) (hn : 1 ≤ n) : ∀ (l : List S94) (x : Int), Nrm x l → NrmB (1048576 + n) (sh p n x) (thrS p n l)
 | [], _, _ => trivial
 | r :: t, x, h => by
  obtain ⟨h1, h2, h3, h4⟩ := h
  have ih := thrS_nrm p n hn t r.f1 h4
  have e : thrS p n (r :: t) = sp p n r ++ thrS p n t := rfl
  rw [e]
  unfold sp
  by_cases c1 : r.f1 ≤ p
  · rw [if_pos c1]
    have : sh p n r.f1 = r.f1 := if_pos c1
    rw [this] at ih
    exact ⟨by unfold sh; rw [if_pos (by omega)]; exact h1, h2, by omega, ih⟩
  · have : sh p n r.f1 = r.f1 + n := if_neg c1
    rw [this] at ih
    rw [if_neg c1]
    by_cases c2 : p ≤ r.f0
    · rw [if_pos c2]
      refine ⟨?_, show r.f0 + n < r.f1 + n by omega, show r.f1 + n ≤ 1048576 + n by omega, ih⟩
      show sh p n x < r.f0 + n
      unfold sh; split <;> omega
    · rw [if_neg c2]
      refine ⟨?_, show r.f0 < p by omega, show p ≤ 1048576 + n by omega, show p < p + n by omega, show p + n < r.f1 + n by omega, show r.f1 + n ≤ 1048576 + n by omega, ih⟩
      show sh p n x < r.f0
      unfold sh; rw [if_pos (by omega)]; exact h1
theorem thrS_ne (p n : Int) {l : List S94} (h : 0 < l.length) : 0 < (thrS p n l).length := by
 cases l with
 | nil => simp at h
 | cons r t =>
  have e : thrS p n (r :: t) = sp p n r ++ thrS p n t := rfl
  rw [e, List.length_append]
  have : 0 < (sp p n r).length := by
   unfold sp
   split
   · simp
   · split <;> simp
  omega
theorem lastHi_snoc (l : List S94) (r : S94) : lastHi (l ++ [r]) = r.f1 := by
 unfold lastHi
 rw [List.getD_eq_getElem?_getD]
 simp
theorem thr_last (p n : Int) {l : List S94} (h : 0 < l.length) : lastHi (thrS p n l) = sh p n (lastHi l) := by
 obtain ⟨l', r, rfl⟩ := (List.eq_nil_or_concat l).resolve_left (fun e => by rw [e] at h; simp at h)
 rw [List.concat_eq_append, lastHi_snoc]
 have e : thrS p n (l' ++ [r]) = thrS p n l' ++ sp p n r := by simp [thrS]
 rw [e]
 unfold sp sh
 by_cases c1 : r.f1 ≤ p
 · rw [if_pos c1, if_pos c1, lastHi_snoc]
 · rw [if_neg c1, if_neg c1]
   by_cases c2 : p ≤ r.f0
   · rw [if_pos c2, lastHi_snoc]
   · rw [if_neg c2]
     have : thrS p n l' ++ [⟨r.f0, p⟩, ⟨p + n, r.f1 + n⟩] = (thrS p n l' ++ [(⟨r.f0, p⟩ : S94)]) ++ [(⟨p + n, r.f1 + n⟩ : S94)] := by simp
     rw [this, lastHi_snoc]
end Go.Proofs.YtloccjkcmlkifaaDoor
end

section
/- The document's include, told of whole operations: it answers as the program's. -/
namespace Go.Proofs.YtloccjkcmlkifaaDoor
open Go.RowKit Go.Proofs.YtloccjkcmlkifaaDoor.PAll Go.Proofs.YtloccjkcmlkifaaDoorW.PrintWords Go.Proofs.YtloccjkcmlkifaaDoorW.PrintLast

attribute [local go_sem high] eqA35 idx35_0 idx35_1
end Go.Proofs.YtloccjkcmlkifaaDoor
end

section
/- The document finds of ranges behind an insert what span.Through makes of them; an include of what is right is right. -/
namespace Go.Proofs.YtloccjkcmlkifaaDoor
open Go.RowKit Go.Proofs.YtloccjkcmlkifaaDoor.PAll Go.Proofs.YtloccjkcmlkifaaDoorW.PrintWords

structure Good (o : S41) : Prop where
 own : ownE o = 0
 fine : fineOp o
theorem nrm_last {x : Int} : ∀ {l : List S94}, Nrm x l → 0 < l.length → 0 ≤ x + 1 → 0 ≤ lastHi l ∧ lastHi l ≤ 1048576
 | [r], h, _, hx => ⟨by show 0 ≤ r.f1; have := h.1; have := h.2.1; omega, h.2.2.1⟩
 | r :: s :: t, h, _, hx => nrm_last (l := s :: t) h.2.2.2 (by simp) (by have := h.1; have := h.2.1; omega)
theorem last_bound {l : List S94} (h : (rngE l).2 = 0) : -1048576 ≤ lastHi l ∧ lastHi l ≤ 1048576 := by
 obtain ⟨_, hN⟩ := rng_ok h
 by_cases h0 : 0 < l.length
 · have := nrm_last hN h0 (by omega); omega
 · have e : l = [] := List.eq_nil_of_length_eq_zero (by omega)
   rw [e]
   show -1048576 ≤ z94.f1 ∧ z94.f1 ≤ 1048576
   unfold z94; simp
theorem Good.rng {o : S41} (g : Good o) (h : o.f0.f1 = 2 ∨ o.f0.f1 = 3) : (rngE o.f3).2 = 0 := ((own_ok g.own).2.2.2.2.2.1 h).2.1
theorem Good.kind {o : S41} (g : Good o) : o.f0.f1 = 1 ∨ o.f0.f1 = 2 ∨ o.f0.f1 = 3 ∨ o.f0.f1 = 4 := by have := own_ok g.own; omega
theorem Good.extra {o : S41} (g : Good o) : extraB o = false := (own_ok g.own).2.2.2.1
theorem Good.noAt {o : S41} (g : Good o) (h : o.f0.f1 ≠ 1) : o.f1 = 0 := by
 have he := g.extra
 unfold extraB at he
 have := of_decide_eq_false he
 by_cases hz : o.f1 = 0
 · exact hz
 · exact absurd (.inl ⟨h, .inl hz⟩) this
theorem Good.fit {o : S41} (g : Good o) : Fit o := by
 have hb := chk_bound o.f2 g.fine.1
 refine ⟨g.fine.2, ?_, ?_⟩
 · by_cases h : o.f0.f1 = 1
   · have := own_ins g.own g.fine.1 h; omega
   · rw [g.noAt h]; omega
 · unfold wid
   have := g.fine.1
   split <;> omega
theorem Good.wid1 {o : S41} (g : Good o) (h : o.f0.f1 = 1) : 1 ≤ wid o ∧ wid o ≤ 256 ∧ 0 ≤ o.f1 ∧ o.f1 + wid o ≤ 1048576 := by
 have := own_ins g.own g.fine.1 h
 have e : wid o = (chk o.f2).1 := if_pos h
 omega
def incE (a b : S41) (e : Bool) : S41 × Int := incP a b e (thrE a.f3 b.f1 (wid b))
theorem incE_prog (a b : S41) (e : Bool) (va vb : Value) (w : World) (hG : GW w) (ha : OpC w va a) (hb : OpC w vb b) (ga : Good a) (gb : Good b) :
 Calls Tryd.prog 56 #[.agg (opA a va), .agg (opA b vb), .bool e] w (RetOp w (incE a b e)) :=
 include_any a b e va vb _ w hG ha hb ga.fit.len ga.fit.at_ ga.fit.wid gb.fit.wid fun h1 h2 => by
  have hb1 := gb.wid1 h2
  exact through_is a.f3 b.f1 (wid b) (ga.rng h1) ⟨hb1.2.2.1, by omega⟩ ⟨hb1.1, by omega⟩ (last_bound (ga.rng h1))
end Go.Proofs.YtloccjkcmlkifaaDoor
end
