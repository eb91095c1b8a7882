/- XformCaretStays_card, part 40. -/
import Derived.Test.YtloccjkcmlkifaaDoorQCs19
import Derived.Test.YtloccjkcmlkifaaDoorQCs17
import Derived.Test.YtloccjkcmlkifaaDoorQCs20
import Derived.Test.YtloccjkcmlkifaaDoorQCs21
import Derived.Test.YtloccjkcmlkifaaDoorQCs23
import Derived.Test.YtloccjkcmlkifaaDoorQCs6
import Derived.Test.YtloccjkcmlkifaaDoorQCs7
import Derived.WalkKit
import Derived.Deep.MidRow
import Derived.Test.YtloccjkcmlkifaaDoorProg
import Derived.Test.YtloccjkcmlkifaaDoorQCs3
import Derived.Lib.QuoteBits
import Derived.Laws.BitsAllLaws
import Derived.Test.YtloccjkcmlkifaaDoorQCs28
import Derived.Test.YtloccjkcmlkifaaDoorQCs33
import Derived.Test.YtloccjkcmlkifaaDoorQCs34
import Derived.Test.YtloccjkcmlkifaaDoorQCs29
import Derived.Test.YtloccjkcmlkifaaDoorQCs1
import Derived.Test.YtloccjkcmlkifaaDoorQCs0
import Derived.Test.YtloccjkcmlkifaaDoorQCs35
import Derived.Test.YtloccjkcmlkifaaDoorQCs37
import Derived.Test.YtloccjkcmlkifaaDoorQCs36
import Derived.Test.YtloccjkcmlkifaaDoorQCs38
import Derived.Test.YtloccjkcmlkifaaDoorQCs39

section
/- The document's way of reading a rune, and the program's: the same. -/
namespace Go.Proofs.YtloccjkcmlkifaaDoor
open Go.RowKit Go.Proofs.YtloccjkcmlkifaaDoor.PAll Go.Proofs.YtloccjkcmlkifaaDoorW.PrintWords

theorem wrap_id {n : Int} (h0 : -9223372036854775808 ≤ n) (h1 : n ≤ 9223372036854775807) : wrap64 n = n := by unfold wrap64; omega
def gb (s : ByteArray) (i : Nat) : Nat := (s.get! i).toNat
end Go.Proofs.YtloccjkcmlkifaaDoor
end

section
/- The document's Places, of parts that lie in order: what touches is joined. -/
namespace Go.Proofs.YtloccjkcmlkifaaDoor
open Go.RowKit Go.Proofs.YtloccjkcmlkifaaDoor.PAll Go.Proofs.YtloccjkcmlkifaaDoorW.PrintWords

def Wk : List S94 → Prop
 | [] => True
 | [r] => r.f0 < r.f1
 | r :: s :: t => r.f0 < r.f1 ∧ r.f1 ≤ s.f0 ∧ Wk (s :: t)
theorem Wk.head {r : S94} {t : List S94} (h : Wk (r :: t)) : r.f0 < r.f1 := by
 cases t with
 | nil => exact h
 | cons s t => exact h.1
theorem Wk.tail {r : S94} {t : List S94} (h : Wk (r :: t)) : Wk t := by
 cases t with
 | nil => trivial
 | cons s t => exact h.2.2
theorem Wk.far {r : S94} : ∀ {t : List S94}, Wk (r :: t) → ∀ s ∈ t, r.f1 ≤ s.f0
 | [], _, _, hs => by cases hs
 | u :: t, h, s, hs => by
  rcases List.mem_cons.1 hs with rfl | hs
  · exact h.2.1
  · have := Wk.far (h.2.2) s hs
    have := Wk.head h.2.2
    have := h.2.1
    omega
theorem Wk.at_ : ∀ {l : List S94}, Wk l → ∀ i j (hi : i < l.length) (hj : j < l.length), i < j → l[i].f1 ≤ l[j].f0
 | r :: t, h, 0, j + 1, _, hj, _ => h.far _ (List.getElem_mem _)
 | r :: t, h, i + 1, j + 1, hi, hj, hij => Wk.at_ h.tail i j (by simpa using hi) (by simpa using hj) (by omega)
end Go.Proofs.YtloccjkcmlkifaaDoor
end

section
/- The document's Places of parts in order: the loops. -/
namespace Go.Proofs.YtloccjkcmlkifaaDoor
open Go.RowKit Go.Proofs.YtloccjkcmlkifaaDoor.PAll Go.Proofs.YtloccjkcmlkifaaDoorW.PrintWords

def Gap : List S94 → Prop
 | [] => True
 | [r] => r.f0 < r.f1
 | r :: s :: t => r.f0 < r.f1 ∧ r.f1 < s.f0 ∧ Gap (s :: t)
end Go.Proofs.YtloccjkcmlkifaaDoor
end

section
/- A load of a wide record, as one step of a walk: its cells are told one by one. -/
namespace Go.Proofs.YtloccjkcmlkifaaDoor
open Go.RowKit

def atL (w : World) (ad : Addr) : Nat → List Value → Prop
 | _, [] => True
 | j, v :: r => w.cell? (ad.add j) = some v ∧ atL w ad (j + 1) r
theorem atL_get {w : World} {ad : Addr} : ∀ {cs : List Value} {o : Nat}, atL w ad o cs → ∀ j v, cs[j]? = some v → w.cell? (ad.add (o + j)) = some v
 | [], _, _, j, v, h => by simp at h
 | x :: r, o, ⟨h0, hr⟩, 0, v, h => by
  simp only [List.getElem?_cons_zero, Option.some.injEq] at h
  subst h; exact h0
 | x :: r, o, ⟨h0, hr⟩, j + 1, v, h => by
  simp only [List.getElem?_cons_succ] at h
  have := atL_get hr j v h
  rw [show o + 1 + j = o + (j + 1) by omega] at this
  exact this
theorem run_load_wide {P : Program} (w : World) (ad : Addr) (ty : TypeId) (cs : List Value) (d : TypeDesc) (hc : atL w ad 0 cs)
 (hu : P.underlying ty = some d) (hd : (match d with | .struct _ | .array _ _ => true | _ => false) = true) (hi : (P.info? ty).map (·.size) = some cs.length) :
 (loadVar ty ad).run P w = .ok (.agg cs.toArray) w := by
 have hl : (loadCells ad cs.length).run P w = .ok cs.toArray w :=
  run_loadCells_list (P := P) w ad cs (fun j v hv => by
   have := atL_get hc j v hv
   rw [Nat.zero_add] at this
   exact this)
 cases hq : P.info? ty with
 | none => simp [hq] at hi
 | some i =>
  have hs : i.size = cs.length := by simpa [hq] using hi
  have hagg : (isAgg ty).run P w = .ok true w := by
   unfold isAgg
   rw [Sem.run_bind, run_underlying hu w]
   cases d <;> simp_all
  simp [loadVar, Sem.run_bind, hagg, sizeOf, typeInfo, hq, hs, hl]
theorem atL_mk {w : World} {ad : Addr} : ∀ {cs : List Value} {o : Nat}, (∀ j v, cs[j]? = some v → w.cell? (ad.add (o + j)) = some v) → atL w ad o cs
 | [], _, _ => trivial
 | x :: r, o, h => ⟨h 0 x rfl, atL_mk fun j v hj => by
  have := h (j + 1) v (by simpa using hj)
  rw [show o + 1 + j = o + (j + 1) by omega]
  exact this⟩
theorem atL_blk {w : World} {g : Nat} {t : TypeId} {cs : List Value} (h : w.heap[g]? = some (.cells cs.toArray t (0, 0))) : atL w ⟨g, 0, none⟩ 0 cs :=
 atL_mk fun j v hj => by
  have hadd : (⟨g, 0, none⟩ : Addr).add (0 + j) = ⟨g, j, none⟩ := by unfold Addr.add; split <;> simp_all
  rw [hadd, Go.Proofs.YtloccjkcmlkifaaDoorW.PrintWords.blk_cell h]
  simpa using hj
theorem blk_setCells {g : Nat} {t : TypeId} : ∀ (vs : List Value) (pre old : List Value) (W : World), W.heap[g]? = some (.cells (pre ++ old).toArray t (0, 0)) → old.length = vs.length →
 (W.setCells g pre.length vs).heap[g]? = some (.cells (pre ++ vs).toArray t (0, 0))
 | [], pre, old, W, h, hl => by
  obtain rfl : old = [] := by simpa using hl
  exact h
 | _ :: _, _, [], _, _, hl => by simp at hl
 | v :: r, pre, u :: q, W, h, hl => by
  have h1 := Go.Proofs.YtloccjkcmlkifaaDoorW.PrintWords.blk_put h pre.length v (cs' := ((pre ++ [v]) ++ q).toArray) (by simp)
  have := blk_setCells r (pre ++ [v]) q (W.setCell ⟨g, pre.length, none⟩ v) h1 (by simpa using hl)
  simpa [World.setCells] using this
theorem below_setCells {g : Nat} {w0 : World} : ∀ (vs : List Value) (o : Nat) (W : World), Below w0.heap.size w0 W → w0.heap.size ≤ g → Below w0.heap.size w0 (W.setCells g o vs)
 | [], _, _, h, _ => h
 | _ :: r, o, _, h, hg => below_setCells r (o + 1) _ (h.setCell hg _) hg
end Go.Proofs.YtloccjkcmlkifaaDoor
end

section
/- The state of a walk as one fact: what is own and written (boxes), what else is known, and that nothing elder has changed. -/
namespace Go.Proofs.YtloccjkcmlkifaaDoor
open Go.RowKit Go.Proofs.YtloccjkcmlkifaaDoorW.PrintWords

abbrev Bx := Nat × TypeId × Array Value
structure St (w0 w : World) (bs : List Bx) (F : World → Prop) : Prop where
 below : Below w0.heap.size w0 w
 box : ∀ b ∈ bs, w.heap[b.1]? = some (.cells b.2.2 b.2.1 (0, 0)) ∧ w0.heap.size ≤ b.1
 nd : (bs.map (·.1)).Nodup
 foot : Foot F w (fun k => k ∉ bs.map (·.1))
namespace St
variable {w0 w w' : World} {bs bs' : List Bx} {F F' F2 : World → Prop} {g : Nat} {t : TypeId} {cs cs' : Array Value}
theorem now (S : St w0 w bs F) : F w := S.foot.now
theorem init (w : World) (h : Foot F w (fun _ => True)) : St w w [] F := ⟨Below.refl _ _, by simp, by simp, h.mono (by simp)⟩
theorem weak (S : St w0 w bs F) (h : ∀ W, F W → F' W) : St w0 w bs F' := ⟨S.below, S.box, S.nd, S.foot.imp h⟩
theorem lt (S : St w0 w bs F) : ∀ b ∈ bs, b.1 < w.heap.size := fun b hb => blk_lt (S.box b hb).1
theorem step (S : St w0 w bs F) (hb : Below w.heap.size w w') : St w0 w' bs F :=
 ⟨below_then S.below S.below.size hb, fun b hm => ⟨blk_below (S.box b hm).1 hb, (S.box b hm).2⟩, S.nd, S.foot.step fun k _ hlt => hb.block k hlt⟩
theorem drewN (S : St w0 w bs F) (n : Nat) : St w0 (w.drewN n) bs F := S.step (pw_below_drewN (Below.refl _ _) n)
theorem drew (S : St w0 w bs F) : St w0 w.drew bs F := S.step (below_drew (Below.refl _ _))
theorem add (S : St w0 w bs F) (hb : Below w.heap.size w w') (h2 : Foot F2 w' (fun k => w.heap.size ≤ k)) : St w0 w' bs (fun W => F W ∧ F2 W) :=
 have S' := S.step hb
 ⟨S'.below, S'.box, S'.nd, fun W' hW => ⟨S'.foot W' hW, (h2.mono (fun k hk hm => by
  obtain ⟨b, hb', rfl⟩ := List.mem_map.1 hm
  exact absurd (S.lt b hb') (by omega)) : Foot F2 w' (fun k => k ∉ bs.map (·.1))) W' hW⟩⟩
theorem push (S : St w0 w bs F) (hb : Below w.heap.size w w') (hn : w'.heap[g]? = some (.cells cs t (0, 0))) (hg : g = w.heap.size) : St w0 w' ((g, t, cs) :: bs) F :=
 have S' := S.step hb
 ⟨S'.below, fun b hm => by
  rcases List.mem_cons.1 hm with rfl | hm
  · exact ⟨hn, by rw [hg]; exact S.below.size⟩
  · exact S'.box b hm, by
  rw [List.map_cons, List.nodup_cons]
  refine ⟨fun hm => ?_, S.nd⟩
  obtain ⟨b, hb', e⟩ := List.mem_map.1 hm
  have := S.lt b hb'
  have e' : b.1 = g := e
  omega, (S.foot.old hb).mono fun k hk hm => by
   rcases List.mem_cons.1 hm with h | h
   · have e' : k = g := h
     have := hk.2
     omega
   · exact hk.1 h⟩
theorem at_ (S : St w0 w bs F) (i : Nat) (e : bs[i]? = some (g, t, cs)) : w.heap[g]? = some (.cells cs t (0, 0)) := (S.box _ (List.mem_of_getElem? e)).1
theorem ge (S : St w0 w bs F) (i : Nat) (e : bs[i]? = some (g, t, cs)) : w0.heap.size ≤ g := (S.box _ (List.mem_of_getElem? e)).2
theorem drop (S : St w0 w bs F) (h : bs'.Sublist bs) : St w0 w bs' F :=
 ⟨S.below, fun b hm => S.box b (h.subset hm), (h.map _).nodup S.nd, S.foot.mono fun _ hk hm => hk ((h.map _).subset hm)⟩
theorem map_set (i : Nat) (e : bs[i]? = some (g, t, cs)) : (bs.set i (g, t, cs')).map (·.1) = bs.map (·.1) := by
 rw [List.map_set]
 have : (bs.map (·.1))[i]? = some g := by rw [List.getElem?_map, e]; rfl
 obtain ⟨hi, he⟩ := List.getElem?_eq_some_iff.1 this
 show (bs.map (·.1)).set i g = _
 rw [← he]; exact List.set_getElem_self hi
theorem put (S : St w0 w bs F) (i : Nat) (e : bs[i]? = some (g, t, cs)) (hb : Below w0.heap.size w0 w') (hg : w'.heap[g]? = some (.cells cs' t (0, 0))) (ho : ∀ k, k ≠ g → w'.heap[k]? = w.heap[k]?) : St w0 w' (bs.set i (g, t, cs')) F := by
 have hi : i < bs.length := (List.getElem?_eq_some_iff.1 e).1
 have hnd : ∀ j b, bs[j]? = some b → j ≠ i → b.1 ≠ g := fun j b hj hne hq => by
  have h1 : (bs.map (·.1))[j]? = some g := by rw [List.getElem?_map, hj]; simp [hq]
  have h2 : (bs.map (·.1))[i]? = some g := by rw [List.getElem?_map, e]; rfl
  have hjl : j < (bs.map (·.1)).length := (List.getElem?_eq_some_iff.1 h1).1
  have hil : i < (bs.map (·.1)).length := (List.getElem?_eq_some_iff.1 h2).1
  rcases Nat.lt_or_gt_of_ne hne with hlt | hlt
  · exact List.pairwise_iff_getElem.1 S.nd j i hjl hil hlt ((List.getElem?_eq_some_iff.1 h1).2.trans (List.getElem?_eq_some_iff.1 h2).2.symm)
  · exact List.pairwise_iff_getElem.1 S.nd i j hil hjl hlt ((List.getElem?_eq_some_iff.1 h2).2.trans (List.getElem?_eq_some_iff.1 h1).2.symm)
 refine ⟨hb, fun b hm => ?_, by rw [map_set i e]; exact S.nd, ?_⟩
 · obtain ⟨j, hj⟩ := List.mem_iff_getElem?.1 hm
   rw [List.getElem?_set] at hj
   by_cases hij : i = j
   rw [if_pos hij, if_pos hi] at hj
   · obtain rfl := Option.some.inj hj
     exact ⟨hg, S.ge _ e⟩
   · rw [if_neg hij] at hj
     have hm' := List.mem_of_getElem? hj
     exact ⟨(ho _ (hnd j b hj (fun h => hij h.symm))).trans (S.box b hm').1, (S.box b hm').2⟩
 · rw [map_set i e]
   exact S.foot.step fun k hk _ => ho k (fun h => hk (h ▸ (List.mem_map.2 ⟨_, List.mem_of_getElem? e, rfl⟩)))
end St
theorem below_setCell0 {w0 w : World} {g : Nat} (h : Below w0.heap.size w0 w) (hg : w0.heap.size ≤ g) (j : Nat) (v : Value) : Below w0.heap.size w0 (w.setCell ⟨g, j, none⟩ v) := h.setCell hg _
theorem setCells_far {g : Nat} : ∀ (vs : List Value) (o : Nat) (W : World) (k : Nat), k ≠ g → (W.setCells g o vs).heap[k]? = W.heap[k]?
 | [], _, _, _, _ => rfl
 | v :: r, o, W, k, hk => by
  show ((W.setCell ⟨g, o, none⟩ v).setCells g (o + 1) r).heap[k]? = _
  rw [setCells_far r (o + 1) _ k hk]
  exact Below.heap_setCell W ⟨g, o, none⟩ v k hk

theorem ix0 {b0 : Bx} {l : List Bx} : (b0 :: l)[0]? = some b0 := rfl
theorem ix1 {b0 b1 : Bx} {l : List Bx} : (b0 :: b1 :: l)[1]? = some b1 := rfl
theorem ix2 {b0 b1 b2 : Bx} {l : List Bx} : (b0 :: b1 :: b2 :: l)[2]? = some b2 := rfl
theorem ix3 {b0 b1 b2 b3 : Bx} {l : List Bx} : (b0 :: b1 :: b2 :: b3 :: l)[3]? = some b3 := rfl
theorem ix4 {b0 b1 b2 b3 b4 : Bx} {l : List Bx} : (b0 :: b1 :: b2 :: b3 :: b4 :: l)[4]? = some b4 := rfl
theorem ix5 {b0 b1 b2 b3 b4 b5 : Bx} {l : List Bx} : (b0 :: b1 :: b2 :: b3 :: b4 :: b5 :: l)[5]? = some b5 := rfl
theorem ix6 {b0 b1 b2 b3 b4 b5 b6 : Bx} {l : List Bx} : (b0 :: b1 :: b2 :: b3 :: b4 :: b5 :: b6 :: l)[6]? = some b6 := rfl
theorem ix7 {b0 b1 b2 b3 b4 b5 b6 b7 : Bx} {l : List Bx} : (b0 :: b1 :: b2 :: b3 :: b4 :: b5 :: b6 :: b7 :: l)[7]? = some b7 := rfl
section
variable {P : Program} {ops : Array Oper} {rest : List Oper} {o : Oper} {a : Act} {Q : Exit → Act → World → Prop} {w0 W : World} {bs : List Bx} {F : World → Prop} {g : Nat} {t : TypeId} {cs : Array Value}
theorem ev_run {W1 : World} {v : Value} (hw : Region.wanted o (yielded ops a.tmps) = true) (hrun : (execOp a.eval o).run P W = .ok (.value v) W1) (h : wpList P ops Q rest (a.put o.dst v) W1) : wpList P ops Q (o :: rest) a W := by
 refine wpList_step fun K hK => ?_
 rw [if_pos hw]
 unfold Oper.wp
 rw [hrun]
 exact hK _ _ h
theorem ev_skip {W1 : World} (hw : Region.wanted o (yielded ops a.tmps) = true) (hN : o.dst = none) (hrun : (execOp a.eval o).run P W = .ok .skip W1) (h : wpList P ops Q rest a W1) : wpList P ops Q (o :: rest) a W := by
 refine wpList_step fun K hK => ?_
 rw [if_pos hw]
 unfold Oper.wp
 rw [hrun]
 show K (a.put o.dst undef) W1
 rw [hN]
 exact hK _ _ h
theorem wanted_plain {y : Nat → Option Bool} (h : o.guard = none) : Region.wanted o y = true := by unfold Region.wanted; rw [h]
theorem wanted_on {y : Nat → Option Bool} {j : Nat} {b : Bool} (h : o.guard = some (j, b)) (hy : y j = some b) : Region.wanted o y = true := by unfold Region.wanted; rw [h]; simp [hy]
theorem gate_box {t : TypeId} {x : Operand} (_ho : o.op = .box t x) (h : wpList P ops Q (o :: rest) a W) : wpList P ops Q (o :: rest) a W := h
theorem gate_new {t : TypeId} (_ho : o.op = .alloc t) (h : wpList P ops Q (o :: rest) a W) : wpList P ops Q (o :: rest) a W := h
theorem gate_load {t : TypeId} {x : Operand} (_ho : o.op = .load t x) (h : wpList P ops Q (o :: rest) a W) : wpList P ops Q (o :: rest) a W := h
theorem gate_st {t : TypeId} {x y : Operand} (_ho : o.op = .store t x y) (h : wpList P ops Q (o :: rest) a W) : wpList P ops Q (o :: rest) a W := h
theorem ev_box (S : Aside0 (St w0 W bs F)) {t : TypeId} {x : Operand} {cs : Array Value} {N : Tmp}
 (h : ∀ g w', Aside0 (St w0 w' ((g, t, cs) :: bs) F) → wpList P ops Q rest (a.put (some N) (.pointer (some ⟨g, 0, none⟩))) w')
 (ho : o.op = .box t x := by rfl) (hx : a.eval x = .agg cs := by rfl) (hd : o.dst = some N := by rfl) (hw : Region.wanted o (yielded ops a.tmps) = true := by first | exact wanted_plain rfl | (refine wanted_on rfl ?_; simp [yielded]))
 (hrun : (execOp a.eval o).run P W = .ok (.value (.pointer (some ⟨W.heap.size, 0, none⟩))) (W.alloc (.cells cs t (0, 0))) := by first | (go_simp; done) | (go_simp; rfl)) : wpList P ops Q (o :: rest) a W :=
 have _ := ho; have _ := hx
 ev_run hw hrun (by rw [hd]; exact h _ _ ⟨S.out.push (below_alloc (Below.refl _ _) _) (blk_new W _) rfl⟩)
theorem ev_new (S : Aside0 (St w0 W bs F)) (t : TypeId) (cs : Array Value) {N : Tmp}
 (h : ∀ g w', Aside0 (St w0 w' ((g, t, cs) :: bs) F) → wpList P ops Q rest (a.put (some N) (.pointer (some ⟨g, 0, none⟩))) w')
 (ho : o.op = .alloc t := by rfl) (hd : o.dst = some N := by rfl) (hw : Region.wanted o (yielded ops a.tmps) = true := by first | exact wanted_plain rfl | (refine wanted_on rfl ?_; simp [yielded]))
 (hrun : (execOp a.eval o).run P W = .ok (.value (.pointer (some ⟨W.heap.size, 0, none⟩))) (W.alloc (.cells cs t (0, 0))) := by first | (go_simp; done) | (go_simp; rfl)) : wpList P ops Q (o :: rest) a W :=
 have _ := ho
 ev_run hw hrun (by rw [hd]; exact h _ _ ⟨S.out.push (below_alloc (Below.refl _ _) _) (blk_new W _) rfl⟩)
theorem ev_load (S : Aside0 (St w0 W bs F)) {i : Nat} {N : Tmp} {ty : TypeId} {x : Operand} {d : TypeDesc}
 (h : wpList P ops Q rest (a.put (some N) (.agg cs)) W)
 (ho : o.op = .load ty x := by rfl) (hx : a.eval x = .pointer (some ⟨g, 0, none⟩) := by rfl) (e : bs[i]? = some (g, t, cs) := by first | exact ix0 | exact ix1 | exact ix2 | exact ix3 | exact ix4 | exact ix5 | exact ix6 | exact ix7) (hd : o.dst = some N := by rfl)
 (hw : Region.wanted o (yielded ops a.tmps) = true := by first | exact wanted_plain rfl | (refine wanted_on rfl ?_; first | (simp [yielded]; done) | rfl)) (hu : P.underlying ty = some d := by first | exact Tryd.underlying41 | exact Tryd.underlying100) (hdd : (match d with | .struct _ | .array _ _ => true | _ => false) = true := by rfl) (hi : (P.info? ty).map (·.size) = some cs.size := by kernel_rfl) : wpList P ops Q (o :: rest) a W := by
 have hc : atL W ⟨g, 0, none⟩ 0 cs.toList := atL_blk (by simpa using S.out.at_ i e)
 have hr := run_load_wide (P := P) W ⟨g, 0, none⟩ ty cs.toList d hc hu hdd (by simpa using hi)
 refine ev_run (v := .agg cs) hw ?_ (by rw [hd]; exact h)
 unfold execOp
 simp only [ho, hx, Instr.loadAt, Instr.sureAddr, Sem.run_bind, Sem.run_pure, Result.andThen_ok, hr]
theorem ev_fld (S : Aside0 (St w0 W bs F)) {i : Nat} {N j : Nat} {ty : TypeId} {x : Operand} {v : Value}
 (h : wpList P ops Q rest (a.put (some N) v) W)
 (ho : o.op = .load ty x := by rfl) (hx : a.eval x = .pointer (some ⟨g, j, none⟩) := by rfl) (e : bs[i]? = some (g, t, cs) := by first | exact ix0 | exact ix1 | exact ix2 | exact ix3 | exact ix4 | exact ix5 | exact ix6 | exact ix7) (hd : o.dst = some N := by rfl)
 (hw : Region.wanted o (yielded ops a.tmps) = true := by first | exact wanted_plain rfl | (refine wanted_on rfl ?_; first | (simp [yielded]; done) | rfl))
 (hrun : (∀ k, W.cell? ⟨g, k, none⟩ = cs[k]?) → (execOp a.eval o).run P W = .ok (.value v) W := by intro hc_; first | (go_simp; done) | (go_simp; rfl)) : wpList P ops Q (o :: rest) a W :=
 have _ := ho; have _ := hx
 ev_run hw (hrun (blk_cell (S.out.at_ i e))) (by rw [hd]; exact h)
theorem ev_store (S : Aside0 (St w0 W bs F)) {i : Nat} {p : Tmp} {v : Operand} {c' : Array Value}
 (h : ∀ w', Aside0 (St w0 w' (bs.set i (g, t, c')) F) → wpList P ops Q rest a w')
 (ho : o.op = .store t (.tmp p) v := by rfl) (hp : a.eval (.tmp p) = .pointer (some ⟨g, 0, none⟩) := by rfl) (e : bs[i]? = some (g, t, cs) := by first | exact ix0 | exact ix1 | exact ix2 | exact ix3 | exact ix4 | exact ix5 | exact ix6 | exact ix7) (hv : a.eval v = .agg c' := by rfl) (hN : o.dst = none := by rfl)
 (hw : Region.wanted o (yielded ops a.tmps) = true := by first | exact wanted_plain rfl | (refine wanted_on rfl ?_; first | (simp [yielded]; done) | rfl)) (hs : cs.size = c'.size := by rfl) (hi : (P.info? t).map (·.size) = some c'.size := by kernel_rfl) (h1 : c'.toList.all (·.oneCell') = true := by rfl) : wpList P ops Q (o :: rest) a W := by
 have hb := S.out.at_ i e
 have hrun : (execOp a.eval o).run P W = .ok .skip (W.setCells g 0 c'.toList) := by
  unfold execOp
  simp only [ho, hp, hv, Sem.run_bind, Sem.run_pure, Result.andThen_ok, run_storeAt_mid W g 0 t c' (fun j hj => ⟨by rw [blk_cell hb]; simp; omega, blk_frozen hb _⟩) hi (by rw [← Array.all_toList]; exact h1)]
 refine ev_skip hw hN hrun (h _ ⟨S.out.put i e (below_setCells _ _ _ S.out.below (S.out.ge i e)) ?_ (fun k hk => setCells_far _ _ _ k hk)⟩)
 have := blk_setCells (g := g) (t := t) c'.toList [] cs.toList W (by simpa using hb) (by simpa using hs)
 simpa using this
theorem ev_set (S : Aside0 (St w0 W bs F)) {i : Nat} {j : Nat} {ty : TypeId} {p : Tmp} {v : Operand} {u : Value}
 (h : ∀ w', Aside0 (St w0 w' (bs.set i (g, t, cs.setIfInBounds j u)) F) → wpList P ops Q rest a w')
 (ho : o.op = .store ty (.tmp p) v := by rfl) (hp : a.eval (.tmp p) = .pointer (some ⟨g, j, none⟩) := by rfl) (e : bs[i]? = some (g, t, cs) := by first | exact ix0 | exact ix1 | exact ix2 | exact ix3 | exact ix4 | exact ix5 | exact ix6 | exact ix7) (hN : o.dst = none := by rfl)
 (hw : Region.wanted o (yielded ops a.tmps) = true := by first | exact wanted_plain rfl | (refine wanted_on rfl ?_; first | (simp [yielded]; done) | rfl))
 (hrun : (∀ k, W.cell? ⟨g, k, none⟩ = cs[k]?) → (∀ k, W.frozen? ⟨g, k, none⟩ = false) → (execOp a.eval o).run P W = .ok .skip (W.setCell ⟨g, j, none⟩ u) := by intro hc_ hf_; first | (go_simp; done) | (go_simp; rfl)) : wpList P ops Q (o :: rest) a W := by
 have hb := S.out.at_ i e
 have _ := ho; have _ := hp
 refine ev_skip hw hN (hrun (blk_cell hb) (blk_frozen hb)) (h _ ⟨S.out.put i e (below_setCell0 S.out.below (S.out.ge i e) _ _) (blk_put hb j u rfl) (fun k hk => Below.heap_setCell W ⟨g, j, none⟩ u k hk)⟩)
end
theorem foot_C {α : Type} {d : Kd α} (hd : Kd.Heap d) {w : World} {A : Option Addr} {n : Nat} {xs : List α} (h : d.C w A n xs) : Foot (fun W => d.C W A n xs) w (fun _ => True) := fun _ hW => hd.C (fun k hk => hW k trivial hk) h
theorem foot_R {α : Type} {d : Kd α} {e : Nat} {w : World} {base : Nat} {v : Value} {xs : List α} (h : d.R e w base (fun _ => True) v xs) : Foot (fun W => d.R e W base (fun _ => True) v xs) w (fun k => base ≤ k) := fun _ hW =>
 Kd.R_mono (Kd.R_move (Kd.R_bound h) (fun k hk => hW k hk.2.1 hk.2.2.1)) (fun _ _ => trivial)
theorem St.addR {α : Type} {d : Kd α} {e : Nat} {w0 w w' : World} {bs : List Bx} {F : World → Prop} {v : Value} {xs : List α} (S : St w0 w bs F) (hb : Below w.heap.size w w') (h : d.R e w' w.heap.size (fun _ => True) v xs) : St w0 w' bs (fun W => F W ∧ d.R e W w0.heap.size (fun _ => True) v xs) :=
 S.add hb fun W' hW => Kd.R_lower (foot_R h W' hW) S.below.size
theorem Foot.and {P Q : World → Prop} {W : World} {ok : Nat → Prop} (h1 : Foot P W ok) (h2 : Foot Q W ok) : Foot (fun W => P W ∧ Q W) W ok := fun W' hW => ⟨h1 W' hW, h2 W' hW⟩
end Go.Proofs.YtloccjkcmlkifaaDoor
end

section
/- utext.Check and the document's Check of a text answer alike. -/
namespace Go.Proofs.YtloccjkcmlkifaaDoor
open Go.RowKit Go.Proofs.YtloccjkcmlkifaaDoor.PAll Go.Proofs.YtloccjkcmlkifaaDoorW.PrintWords

theorem decode_four (s : ByteArray) (pos : Nat) : (Utf8.decode s pos).2 ≤ 4 := by
 simp only [Utf8.decode]
 repeat' split
 all_goals simp
theorem chk_succ (s : ByteArray) (f pos : Nat) (n : Int) (h : pos < s.size) : chkFrom s (f + 1) pos n = if okSeq s pos (Utf8.decode s pos).1 then (if okRune (Utf8.decode s pos).1 then chkFrom s f (pos + (Utf8.decode s pos).2) (wrap64 (n + 1)) else (0, pos, 11)) else (0, pos, 10) := by
 rw [chkFrom, if_pos h]

def chk (s : ByteArray) : Int × Int × Int := chkFrom s s.size 0 0
theorem chk_f (s : ByteArray) : utext_Check.f s = some (chk s) := rfl

theorem chk_bound (s : ByteArray) (hs : s.size ≤ 1048576) : 0 ≤ (chk s).1 ∧ (chk s).1 ≤ s.size := by
 have : ∀ (f pos : Nat) (n : Int), 0 ≤ n → n ≤ pos → pos + f ≤ s.size → 0 ≤ (chkFrom s f pos n).1 ∧ (chkFrom s f pos n).1 ≤ s.size := by
  intro f
  induction f with
  | zero => intro pos n h0 h1 h2; exact ⟨h0, by show n ≤ _; omega⟩
  | succ f ih =>
   intro pos n h0 h1 h2
   rw [chk_succ s f pos n (by omega)]
   split
   · split
     · have hw := width_pos s pos (by omega)
       have h5 := decode_four s pos
       by_cases hp : pos + (Utf8.decode s pos).2 + f ≤ s.size
       · exact ih _ _ (by rw [wrap_id (by omega) (by omega)]; omega) (by rw [wrap_id (by omega) (by omega)]; omega) hp
       · -- fewer rounds than bytes are left: the end comes first
         have key : ∀ (g q : Nat) (m : Int), 0 ≤ m → m + g ≤ s.size → 0 ≤ (chkFrom s g q m).1 ∧ (chkFrom s g q m).1 ≤ s.size := by
          intro g
          induction g with
          | zero => intro q m h0 h1; exact ⟨h0, by show m ≤ _; omega⟩
          | succ g ih2 =>
           intro q m h0 h1
           by_cases hq : q < s.size
           · rw [chk_succ s g q m hq]
             split
             · split
               · exact ih2 _ _ (by rw [wrap_id (by omega) (by omega)]; omega) (by rw [wrap_id (by omega) (by omega)]; omega)
               · exact ⟨Int.le_refl _, by show (0 : Int) ≤ _; omega⟩
             · exact ⟨Int.le_refl _, by show (0 : Int) ≤ _; omega⟩
           · rw [chk_end s _ q m hq]; exact ⟨h0, by show m ≤ _; omega⟩
         exact key f _ _ (by rw [wrap_id (by omega) (by omega)]; omega) (by rw [wrap_id (by omega) (by omega)]; omega)
     · exact ⟨Int.le_refl _, by show (0 : Int) ≤ _; omega⟩
   · exact ⟨Int.le_refl _, by show (0 : Int) ≤ _; omega⟩
 exact this s.size 0 0 (by omega) (by omega) (by omega)
end Go.Proofs.YtloccjkcmlkifaaDoor
end

section
/- An operation's own error: the program's and the document's are alike. -/
namespace Go.Proofs.YtloccjkcmlkifaaDoor
open Go.RowKit Go.Proofs.YtloccjkcmlkifaaDoor.PAll Go.Proofs.YtloccjkcmlkifaaDoorW.PrintWords

def rngFrom (l : List S94) : Nat → Nat → Int × Int
 | 0, _ => (0, 0)
 | d + 1, i => if i < l.length then (if (l.getD i z94).f0 < 0 ∨ 1048576 < (l.getD i z94).f1 ∨ (l.getD i z94).f1 ≤ (l.getD i z94).f0 then ((i : Int), 20) else if 0 < i ∧ (l.getD i z94).f0 ≤ (l.getD (i - 1) z94).f1 then ((i : Int), 22) else rngFrom l d (i + 1)) else (0, 0)
def rngE (l : List S94) : Int × Int := if 32768 < l.length then (32768, 21) else rngFrom l l.length 0

theorem span_loop (l : List S94) (hl : l.length ≤ 32768) : ∀ (d k i : Nat), l.length - i ≤ d → i ≤ l.length → 2 * d + 2 ≤ k → span_Check.l0 k l l (l.length : Int) (i : Int) = some (rngFrom l d i) := by
 intro d
 induction d with
 | zero =>
  intro k i h1 h2 hk
  obtain ⟨k, rfl⟩ : ∃ m, k = m + 1 := ⟨k - 1, by omega⟩
  rw [span_Check.l0, if_neg (by omega)]
  rfl
 | succ d ih =>
  intro k i h1 h2 hk
  obtain ⟨k, rfl⟩ : ∃ m, k = m + 2 := ⟨k - 2, by omega⟩
  rw [show k + 2 = (k + 1) + 1 from rfl, span_Check.l0, rngFrom]
  have e : rd_T94 l (i : Int) = l.getD i z94 := by unfold rd_T94; rw [Int.toNat_natCast]
  by_cases hi : i < l.length
  · rw [if_pos (by omega), if_pos (by omega), if_pos (by omega), if_pos hi, e]
    by_cases c1 : (l.getD i z94).f0 < 0
    · rw [if_pos c1, if_pos (.inl c1), span_Check.j1, if_pos rfl]
    · rw [if_neg c1]
      by_cases c2 : (l.getD i z94).f1 > 1048576
      · rw [if_pos c2, if_pos (.inr (.inl c2)), span_Check.j1, if_pos rfl]
      · rw [if_neg c2, span_Check.j1]
        by_cases c3 : (l.getD i z94).f0 ≥ (l.getD i z94).f1
        · rw [if_pos (decide_eq_true c3), if_pos (.inr (.inr c3))]
        · rw [if_neg (by rw [decide_eq_false c3]; simp), if_neg (show ¬ ((l.getD i z94).f0 < 0 ∨ 1048576 < (l.getD i z94).f1 ∨ (l.getD i z94).f1 ≤ (l.getD i z94).f0) by omega)]
          have w1 : wrap64 ((i : Int) + 1) = ((i + 1 : Nat) : Int) := by rw [wrap_id (by omega) (by omega)]; omega
          rw [w1, ih k (i + 1) (by omega) (by omega) (by omega)]
          by_cases c4 : 0 < i
          · have w2 : wrap64 ((i : Int) - 1) = ((i - 1 : Nat) : Int) := by rw [wrap_id (by omega) (by omega)]; omega
            have e2 : rd_T94 l ((i - 1 : Nat) : Int) = l.getD (i - 1) z94 := by unfold rd_T94; rw [Int.toNat_natCast]
            rw [if_pos (by omega), w2, if_pos (by omega), if_pos (by omega), e2]
            by_cases c5 : (l.getD i z94).f0 ≤ (l.getD (i - 1) z94).f1
            · rw [if_pos c5, if_pos ⟨c4, c5⟩]
            · rw [if_neg c5, if_neg (fun h => c5 h.2)]
          · rw [if_neg (by omega), if_neg (fun h => c4 h.1)]
  · rw [if_neg (by omega), if_neg hi]
theorem span_chk (l : List S94) : Ev (fun k => span_Check.f k l) (rngE l) := by
 refine ⟨2 * l.length + 2, fun k hk => ?_⟩
 simp only [span_Check.f, rngE]
 by_cases h : 32768 < l.length
 · rw [if_pos (by omega), if_pos h]
 · rw [if_neg (by omega), if_neg h]
   exact span_loop l (by omega) l.length k 0 (by omega) (by omega) hk

def isID (a b : Int) : Bool := decide (1 ≤ a ∧ a ≤ 8 ∧ 1 ≤ b ∧ b ≤ 1024)
theorem right_is (a b : Int) : op_right.f a b = some (isID a b) := by
 unfold op_right.f isID
 by_cases h1 : 1 ≤ a <;> by_cases h2 : a ≤ 8 <;> by_cases h3 : 1 ≤ b <;> by_cases h4 : b ≤ 1024 <;> simp [h1, h2, h3, h4]
def extraB (o : S41) : Bool := decide ((o.f0.f1 ≠ 1 ∧ (o.f1 ≠ 0 ∨ o.f2.toList ≠ [])) ∨ (o.f0.f1 ≠ 2 ∧ o.f0.f1 ≠ 3 ∧ o.f3.length ≠ 0) ∨ (o.f0.f1 ≠ 4 ∧ (o.f4.f0 ≠ 0 ∨ o.f4.f1 ≠ 0 ∨ o.f5 = true)))
theorem extra_is (o : S41) : op_extra.f o.f0.f0.f0 o.f0.f0.f1 o.f0.f1 o.f1 o.f2 o.f3 o.f4.f0 o.f4.f1 o.f5 = some (extraB o) := by
 obtain ⟨⟨⟨a, b⟩, kd⟩, at', tx, rg, ⟨t0, t1⟩, on⟩ := o
 unfold op_extra.f extraB
 simp only
 by_cases k1 : kd = 1
 · subst k1
   by_cases r : rg.length = 0 <;> by_cases h0 : t0 = 0 <;> by_cases h1 : t1 = 0 <;> cases on <;> simp_all <;> omega
 · by_cases k2 : kd = 2
   · subst k2
     by_cases p : at' = 0 <;> by_cases q : tx.toList = [] <;> by_cases h0 : t0 = 0 <;> by_cases h1 : t1 = 0 <;> cases on <;> simp_all
   · by_cases k3 : kd = 3
     · subst k3
       by_cases p : at' = 0 <;> by_cases q : tx.toList = [] <;> by_cases h0 : t0 = 0 <;> by_cases h1 : t1 = 0 <;> cases on <;> simp_all
     · by_cases k4 : kd = 4
       · subst k4
         by_cases p : at' = 0 <;> by_cases q : tx.toList = [] <;> by_cases r : rg.length = 0 <;> simp_all <;> omega
       · by_cases p : at' = 0 <;> by_cases q : tx.toList = [] <;> by_cases r : rg.length = 0 <;> by_cases h0 : t0 = 0 <;> by_cases h1 : t1 = 0 <;> cases on <;> simp_all <;> omega

def insE (o : S41) (total : Int) : Int :=
 if (chk o.f2).2.2 = 0 then (if (chk o.f2).1 = 0 then 15 else if 256 < (chk o.f2).1 then 14 else if o.f1 < 0 ∨ total < o.f1 then 12 else if 1048576 < total + (chk o.f2).1 then 24 else 0) else (chk o.f2).2.2
def lastHi (l : List S94) : Int := (l.getD (l.length - 1) z94).f1
def rgsE (l : List S94) (total : Int) : Int := if l.length = 0 then 43 else if (rngE l).2 = 0 then (if total < lastHi l then 12 else 0) else (rngE l).2
def staE (o : S41) : Int := if isID o.f4.f0 o.f4.f1 = true ∧ ¬ (o.f4.f0 = o.f0.f0.f0 ∧ o.f4.f1 = o.f0.f0.f1) then 0 else 63
def badID (o : S41) : Prop := ¬ (o.f0.f0.f0 = 0 ∧ o.f0.f0.f1 = 0) ∧ isID o.f0.f0.f0 o.f0.f0.f1 = false
instance (o : S41) : Decidable (badID o) := by unfold badID; infer_instance
def checkE (o : S41) (total : Int) : Int :=
 if total < 0 ∨ 1048576 < total then 12 else if o.f0.f1 < 1 ∨ 4 < o.f0.f1 then 40 else if badID o then 41 else if extraB o = true then 42 else if o.f0.f1 = 1 then insE o total else if o.f0.f1 = 4 then staE o else rgsE o.f3 total
def totOf (o : S41) : Int := if o.f0.f1 = 1 ∧ 0 ≤ o.f1 ∧ o.f1 ≤ 1048576 then o.f1 else 1048576
def ownE (o : S41) : Int := checkE o (totOf o)

theorem ins_is (k : Nat) (o : S41) (total : Int) (ht : 0 ≤ total ∧ total ≤ 1048576) (hs : o.f2.size ≤ 1048576) : op_checkIns.f (k + 1) o.f0.f0.f0 o.f0.f0.f1 o.f0.f1 o.f1 o.f2 o.f3 o.f4.f0 o.f4.f1 o.f5 total = some (insE o total) := by
 have hb := chk_bound o.f2 hs
 unfold op_checkIns.f insE
 rw [chk_f]
 simp only [Option.bind_some]
 by_cases c1 : (chk o.f2).2.2 = 0
 · rw [if_pos c1, if_pos c1]
   by_cases c2 : (chk o.f2).1 = 0
   · rw [if_pos c2, if_pos c2]
   · rw [if_neg c2, if_neg c2]
     by_cases c3 : 256 < (chk o.f2).1
     · rw [if_pos (by omega), if_pos c3]
     · rw [if_neg (by omega), if_neg c3]
       have w : wrap64 (total + (chk o.f2).1) = total + (chk o.f2).1 := wrap_id (by omega) (by omega)
       by_cases c4 : o.f1 < 0
       · rw [if_pos c4, if_pos (Or.inl c4), op_checkIns.j0, if_pos rfl]
       · rw [if_neg c4, op_checkIns.j0]
         by_cases c5 : total < o.f1
         · rw [if_pos (decide_eq_true c5), if_pos (Or.inr c5)]
         · rw [if_neg (by rw [decide_eq_false (by omega)]; simp), if_neg (show ¬ (o.f1 < 0 ∨ total < o.f1) by omega), w]
           by_cases c6 : 1048576 < total + (chk o.f2).1
           · rw [if_pos (by omega), if_pos c6]
           · rw [if_neg (by omega), if_neg c6]
 · rw [if_neg c1, if_neg c1]
theorem rgs_is (l : List S94) (total : Int) (hl : l.length ≤ 4611686018427387904) : Ev (fun k => op_checkRanges.f k l total) (rgsE l total) := by
 obtain ⟨K, hK⟩ := span_chk l
 dsimp only at hK
 refine ⟨K, fun k hk => ?_⟩
 simp only [op_checkRanges.f, rgsE]
 by_cases c0 : l.length = 0
 · rw [if_pos (by omega), if_pos c0]
 · rw [if_neg (by omega), if_neg c0, hK k hk]
   simp only [Option.bind_some]
   by_cases c1 : (rngE l).2 = 0
   · have w : wrap64 ((l.length : Int) - 1) = ((l.length - 1 : Nat) : Int) := by rw [wrap_id (by omega) (by omega)]; omega
     have e : rd_T94 l ((l.length - 1 : Nat) : Int) = l.getD (l.length - 1) z94 := by unfold rd_T94; rw [Int.toNat_natCast]
     rw [if_pos c1, if_pos c1, w, if_pos (by omega), if_pos (by omega), e]
     unfold lastHi
     by_cases c2 : total < (l.getD (l.length - 1) z94).f1
     · rw [if_pos (by omega), if_pos c2]
     · rw [if_neg (by omega), if_neg c2]
   · rw [if_neg c1, if_neg c1]

theorem check_is (o : S41) (total : Int) (hs : o.f2.size ≤ 1048576) (hl : o.f3.length ≤ 4611686018427387904) : Ev (fun k => op_Check.f k o.f0.f0.f0 o.f0.f0.f1 o.f0.f1 o.f1 o.f2 o.f3 o.f4.f0 o.f4.f1 o.f5 total) (checkE o total) := by
 obtain ⟨K, hK⟩ := rgs_is o.f3 total hl
 dsimp only at hK
 refine ⟨K + 4, fun k hk => ?_⟩
 obtain ⟨k, rfl⟩ : ∃ m, k = m + 4 := ⟨k - 4, by omega⟩
 simp only [op_Check.f, checkE]
 by_cases c0 : total < 0
 · rw [if_pos c0, if_pos (Or.inl c0), op_Check.j0, if_pos rfl]
 · rw [if_neg c0, op_Check.j0]
   by_cases c1 : 1048576 < total
   · rw [if_pos (decide_eq_true c1), if_pos (Or.inr c1)]
   · rw [if_neg (by rw [decide_eq_false (by omega)]; simp), if_neg (show ¬ (total < 0 ∨ 1048576 < total) by omega)]
     by_cases c2 : o.f0.f1 < 1
     · rw [if_pos c2, if_pos (Or.inl c2), op_Check.j1, if_pos rfl]
     · rw [if_neg c2, op_Check.j1]
       by_cases c3 : 4 < o.f0.f1
       · rw [if_pos (decide_eq_true c3), if_pos (Or.inr c3)]
       · rw [if_neg (by rw [decide_eq_false (by omega)]; simp), if_neg (show ¬ (o.f0.f1 < 1 ∨ 4 < o.f0.f1) by omega)]
         have hj : ∀ b : Bool, (b = true ↔ badID o) → op_Check.j2 (k + 2) total b o.f0.f0.f0 o.f0.f0.f1 o.f0.f1 o.f1 o.f2 o.f3 o.f4.f0 o.f4.f1 o.f5 = some (if badID o then 41 else if extraB o = true then 42 else if o.f0.f1 = 1 then insE o total else if o.f0.f1 = 4 then staE o else rgsE o.f3 total) := by
          intro b hb
          rw [op_Check.j2]
          by_cases c4 : badID o
          · rw [if_pos (hb.2 c4), if_pos c4]
          · rw [if_neg (fun h => c4 (hb.1 h)), if_neg c4, extra_is]
            simp only [Option.bind_some]
            by_cases c5 : extraB o = true
            · rw [if_pos c5, if_pos c5]
            · rw [if_neg c5, if_neg c5]
              by_cases c6 : o.f0.f1 = 1
              · rw [if_pos c6, if_pos c6, ins_is k o total ⟨by omega, by omega⟩ hs]
                rfl
              · rw [if_neg c6, if_neg c6]
                by_cases c7 : o.f0.f1 = 4
                · rw [if_pos c7, if_pos c7, right_is]
                  simp only [Option.bind_some]
                  unfold staE
                  by_cases c8 : isID o.f4.f0 o.f4.f1 = true
                  · rw [if_pos c8]
                    by_cases c9 : o.f4.f0 = o.f0.f0.f0 ∧ o.f4.f1 = o.f0.f0.f1
                    · rw [if_pos (by simp [c9.1, c9.2]), if_neg (fun h => h.2 c9)]
                    · rw [if_neg (by simpa using c9), if_pos ⟨c8, c9⟩]
                  · rw [if_neg c8, if_neg (fun h => c8 h.1)]
                · rw [if_neg c7, if_neg c7, hK (k + 1) (by omega)]
                  rfl
         by_cases c4 : (!(o.f0.f0.f0 == 0) || (!(o.f0.f0.f1 == 0))) = true
         · rw [if_pos c4, right_is]
           simp only [Option.bind_some]
           refine hj _ ?_
           have : ¬ (o.f0.f0.f0 = 0 ∧ o.f0.f0.f1 = 0) := by simpa [Classical.or_iff_not_imp_left] using c4
           unfold badID
           simp [this]
         · rw [if_neg c4]
           refine hj _ ?_
           have : o.f0.f0.f0 = 0 ∧ o.f0.f0.f1 = 0 := by simpa using c4
           unfold badID
           simp [this]

theorem own_is (o : S41) (hs : o.f2.size ≤ 1048576) (hl : o.f3.length ≤ 4611686018427387904) : Ev (fun k => xform_own.f k o.f0.f0.f0 o.f0.f0.f1 o.f0.f1 o.f1 o.f2 o.f3 o.f4.f0 o.f4.f1 o.f5) (ownE o) := by
 obtain ⟨K, hK⟩ := check_is o (totOf o) hs hl
 dsimp only at hK
 refine ⟨K + 1, fun k hk => ?_⟩
 obtain ⟨k, rfl⟩ : ∃ m, k = m + 1 := ⟨k - 1, by omega⟩
 have hK' := hK k (by omega)
 simp only [xform_own.f, ownE]
 by_cases c1 : o.f0.f1 = 1
 · by_cases c2 : 0 ≤ o.f1
   · by_cases c3 : o.f1 ≤ 1048576
     · have e : totOf o = o.f1 := by unfold totOf; rw [if_pos ⟨c1, c2, c3⟩]
       rw [e] at hK' ⊢
       rw [if_pos c1, if_pos c2, xform_own.j0, if_pos (decide_eq_true c3), hK']
       rfl
     · have e : totOf o = 1048576 := by unfold totOf; rw [if_neg (fun h => c3 h.2.2)]
       rw [e] at hK' ⊢
       rw [if_pos c1, if_pos c2, xform_own.j0, if_neg (by rw [decide_eq_false c3]; simp), hK']
       rfl
   · have e : totOf o = 1048576 := by unfold totOf; rw [if_neg (fun h => c2 h.2.1)]
     rw [e] at hK' ⊢
     rw [if_pos c1, if_neg c2, xform_own.j0, if_neg (by simp), hK']
     rfl
 · have e : totOf o = 1048576 := by unfold totOf; rw [if_neg (fun h => c1 h.1)]
   rw [e] at hK' ⊢
   rw [if_neg c1, xform_own.j0, if_neg (by simp), hK']
   rfl
end Go.Proofs.YtloccjkcmlkifaaDoor
end

section
/- xform.Caret and the document's Caret answer alike. -/
namespace Go.Proofs.YtloccjkcmlkifaaDoor
open Go.RowKit Go.Proofs.YtloccjkcmlkifaaDoor.PAll Go.Proofs.YtloccjkcmlkifaaDoorW.PrintWords

def wid (o : S41) : Int := if o.f0.f1 = 1 then (chk o.f2).1 else 0
theorem own_ok {o : S41} (h : ownE o = 0) : 1 ≤ o.f0.f1 ∧ o.f0.f1 ≤ 4 ∧ ¬ badID o ∧ extraB o = false ∧
 (o.f0.f1 = 1 → 0 ≤ o.f1 ∧ o.f1 ≤ 1048576 ∧ (chk o.f2).2.2 = 0 ∧ 1 ≤ (chk o.f2).1 ∧ (chk o.f2).1 ≤ 256 ∧ o.f1 + (chk o.f2).1 ≤ 1048576 ∨ (chk o.f2).1 < 0) ∧
 (o.f0.f1 = 2 ∨ o.f0.f1 = 3 → o.f3.length ≠ 0 ∧ (rngE o.f3).2 = 0 ∧ lastHi o.f3 ≤ 1048576) ∧ (o.f0.f1 = 4 → staE o = 0) := by
 unfold ownE checkE at h
 by_cases t : totOf o < 0 ∨ 1048576 < totOf o
 · rw [if_pos t] at h; omega
 rw [if_neg t] at h
 by_cases k : o.f0.f1 < 1 ∨ 4 < o.f0.f1
 · rw [if_pos k] at h; omega
 rw [if_neg k] at h
 by_cases b : badID o
 · rw [if_pos b] at h; omega
 rw [if_neg b] at h
 by_cases e : extraB o = true
 · rw [if_pos e] at h; omega
 rw [if_neg e] at h
 refine ⟨by omega, by omega, b, by simpa using e, fun k1 => ?_, fun k2 => ?_, fun k4 => ?_⟩
 · rw [if_pos k1] at h
   unfold insE at h
   by_cases c1 : (chk o.f2).2.2 = 0
   · rw [if_pos c1] at h
     by_cases c2 : (chk o.f2).1 = 0
     · rw [if_pos c2] at h; omega
     rw [if_neg c2] at h
     by_cases c3 : 256 < (chk o.f2).1
     · rw [if_pos c3] at h; omega
     rw [if_neg c3] at h
     by_cases c4 : o.f1 < 0 ∨ totOf o < o.f1
     · rw [if_pos c4] at h; omega
     rw [if_neg c4] at h
     by_cases c5 : 1048576 < totOf o + (chk o.f2).1
     · rw [if_pos c5] at h; omega
     by_cases c6 : (chk o.f2).1 < 0
     · exact .inr c6
     left
     have : totOf o = o.f1 ∨ totOf o = 1048576 := by unfold totOf; split <;> simp
     rcases this with q | q
     · exact ⟨by omega, by omega, c1, by omega, by omega, by omega⟩
     · omega
   · rw [if_neg c1] at h; omega
 · rw [if_neg (by omega), if_neg (by omega)] at h
   unfold rgsE at h
   by_cases c1 : o.f3.length = 0
   · rw [if_pos c1] at h; omega
   rw [if_neg c1] at h
   by_cases c2 : (rngE o.f3).2 = 0
   · rw [if_pos c2] at h
     by_cases c3 : totOf o < lastHi o.f3
     · rw [if_pos c3] at h; omega
     exact ⟨c1, c2, by omega⟩
   · rw [if_neg c2] at h; omega
 · rw [if_neg (by omega), if_pos k4] at h
   exact h
theorem own_ins {o : S41} (h : ownE o = 0) (hs : o.f2.size ≤ 1048576) (k : o.f0.f1 = 1) : 0 ≤ o.f1 ∧ o.f1 ≤ 1048576 ∧ (chk o.f2).2.2 = 0 ∧ 1 ≤ (chk o.f2).1 ∧ (chk o.f2).1 ≤ 256 ∧ o.f1 + (chk o.f2).1 ≤ 1048576 := by
 have hb := chk_bound o.f2 hs
 rcases (own_ok h).2.2.2.2.1 k with q | q
 · exact q
 · omega

def caretE (c : Int) (o : S41) : Int × Int :=
 if ownE o = 0 then (if c < 0 ∨ 1048576 < c then (0, 12) else if o.f0.f1 ≠ 1 ∨ c ≤ o.f1 then (c, 0) else if 1048576 < c + wid o then (0, 24) else (c + wid o, 0)) else (0, ownE o)
theorem width_is (o : S41) : op_Width.f o.f0.f0.f0 o.f0.f0.f1 o.f0.f1 o.f1 o.f2 o.f3 o.f4.f0 o.f4.f1 o.f5 = some (wid o) := by
 unfold op_Width.f wid
 by_cases h : o.f0.f1 = 1
 · rw [if_pos h, if_pos h, chk_f]; rfl
 · rw [if_neg h, if_neg h]
theorem caret_is (c : Int) (o : S41) (hs : o.f2.size ≤ 1048576) (hl : o.f3.length ≤ 4611686018427387904) : Ev (fun k => xform_Caret.f k c o.f0.f0.f0 o.f0.f0.f1 o.f0.f1 o.f1 o.f2 o.f3 o.f4.f0 o.f4.f1 o.f5) (caretE c o) := by
 obtain ⟨K, hK⟩ := own_is o hs hl
 dsimp only at hK
 refine ⟨K + 2, fun k hk => ?_⟩
 obtain ⟨k, rfl⟩ : ∃ m, k = m + 2 := ⟨k - 2, by omega⟩
 simp only [xform_Caret.f, caretE]
 rw [hK (k + 2) (by omega)]
 simp only [Option.bind_some]
 by_cases e : ownE o = 0
 · rw [if_pos e, if_pos e]
   by_cases c1 : c < 0
   · rw [if_pos c1, if_pos (Or.inl c1), xform_Caret.j0, if_pos rfl]
   · rw [if_neg c1, xform_Caret.j0]
     by_cases c2 : 1048576 < c
     · rw [if_pos (decide_eq_true c2), if_pos (Or.inr c2)]
     · rw [if_neg (by rw [decide_eq_false (by omega)]; simp), if_neg (show ¬ (c < 0 ∨ 1048576 < c) by omega)]
       by_cases c3 : o.f0.f1 = 1
       · rw [if_pos c3, xform_Caret.j1]
         by_cases c4 : c ≤ o.f1
         · rw [if_pos (decide_eq_true c4), if_pos (Or.inr c4)]
         · have hi := own_ins e hs c3
           have hw : wid o = (chk o.f2).1 := if_pos c3
           rw [if_neg (by rw [decide_eq_false (by omega)]; simp), if_neg (show ¬ (o.f0.f1 ≠ 1 ∨ c ≤ o.f1) by omega), width_is]
           simp only [Option.bind_some]
           rw [wrap_id (n := c + wid o) (by omega) (by omega)]
           by_cases c5 : 1048576 < c + wid o
           · rw [if_pos (by omega), if_pos c5]
           · rw [if_neg (by omega), if_neg c5]
       · rw [if_neg c3, xform_Caret.j1, if_pos rfl, if_pos (Or.inl c3)]
 · rw [if_neg e, if_neg e]
end Go.Proofs.YtloccjkcmlkifaaDoor
end

section
/- What comes in is of a size that a machine may hold; a copy is what was copied. -/
namespace Go.Proofs.YtloccjkcmlkifaaDoor
open Go.RowKit Go.Proofs.YtloccjkcmlkifaaDoor.PAll Go.Proofs.YtloccjkcmlkifaaDoorW.PrintWords

def fineOp (o : S41) : Prop := o.f2.size ≤ 1048576 ∧ o.f3.length ≤ 1048576
theorem copy_is (o : S41) (h : fineOp o) : redraftref05_Copy.f o.f0.f0.f0 o.f0.f0.f1 o.f0.f1 o.f1 o.f2 o.f3 o.f4.f0 o.f4.f1 o.f5 = some (o.f0.f0.f0, o.f0.f0.f1, o.f0.f1, o.f1, o.f2, o.f3, o.f4.f0, o.f4.f1, o.f5) := by
 unfold redraftref05_Copy.f
 rw [if_pos (by have := h.2; simp; omega)]
 rfl
end Go.Proofs.YtloccjkcmlkifaaDoor
end

section
/- Operations as values: what a call hands back of an operation; the small functions of xform, told of whole operations. -/
namespace Go.Proofs.YtloccjkcmlkifaaDoor
open Go.RowKit Go.Proofs.YtloccjkcmlkifaaDoor.PAll Go.Proofs.YtloccjkcmlkifaaDoorW.PrintWords

abbrev opA (o : S41) (v : Value) : Array Value := #[.int .i64 o.f0.f0.f0, .int .i64 o.f0.f0.f1, .int .i64 o.f0.f1, .int .i64 o.f1, .string o.f2, v, .int .i64 o.f4.f0, .int .i64 o.f4.f1, .bool o.f5]
abbrev zA : Array Value := #[.int .i64 0, .int .i64 0, .int .i64 0, .int .i64 0, .string ⟨#[]⟩, .slice none 0 0, .int .i64 0, .int .i64 0, .bool false]
def OpC (w : World) (v : Value) (o : S41) : Prop := ∃ A c, v = .slice A o.f3.length c ∧ o.f3.length ≤ c ∧ k94.C w A o.f3.length o.f3
theorem OpC.below {w w' : World} {v : Value} {o : S41} (h : OpC w v o) (hb : Below w.heap.size w w') : OpC w' v o := by
 obtain ⟨A, c, e, h1, h2⟩ := h
 exact ⟨A, c, e, h1, Kd.C_below h2 hb⟩
theorem opC_mk {w : World} {o : S41} {A : Option Addr} {c : Nat} (h1 : o.f3.length ≤ c) (h2 : k94.C w A o.f3.length o.f3) : OpC w (.slice A o.f3.length c) o := ⟨A, c, rfl, h1, h2⟩
def OpR (w : World) (base : Nat) (v : Value) (o : S41) : Prop := Kd.R k94 94 w base (fun _ => True) v o.f3
theorem OpR.C {w : World} {base : Nat} {v : Value} {o : S41} (h : OpR w base v o) : OpC w v o := Kd.R_reads h
theorem OpR.slice {w : World} {base : Nat} {v : Value} {o : S41} (h : OpR w base v o) : ∃ A c, v = .slice A o.f3.length c := Kd.R_slice h
def IsOp (w : World) (r : S41) : Ending → World → Prop := fun e w' => ∃ v, e = .returned (.agg (opA r v)) ∧ OpR w' w.heap.size v r ∧ Below w.heap.size w w'
theorem St.addOp {w0 w w' : World} {bs : List Bx} {F : World → Prop} {v : Value} {o : S41} (S : St w0 w bs F) (hb : Below w.heap.size w w') (h : OpR w' w.heap.size v o) : St w0 w' bs (fun W => F W ∧ OpR W w0.heap.size v o) := S.addR hb h
theorem opR_nil (w : World) (base : Nat) : OpR w base (.slice none 0 0) z41 := Kd.R_nil _ _ _ _ _

def clashB (a b : S41) : Bool := decide (a.f0.f0.f0 = b.f0.f0.f0 ∧ a.f0.f0.f1 = b.f0.f0.f1 ∧ (a.f0.f0.f0 ≠ 0 ∨ a.f0.f0.f1 ≠ 0))
def moveE (a : S41) (p : Int) : S41 × Int := if 1048576 < p + wid a then (z41, 24) else (⟨a.f0, p, a.f2, [], a.f4, a.f5⟩, 0)
def rangedE (a : S41) (r : List S94 × Int) : S41 × Int := if r.2 = 0 then (⟨a.f0, a.f1, a.f2, r.1, a.f4, a.f5⟩, 0) else (z41, r.2)
theorem OpC.foot {w : World} {v : Value} {o : S41} (h : OpC w v o) : Foot (fun W => OpC W v o) w (fun _ => True) := by
 obtain ⟨A, c, e, h1, h2⟩ := h
 exact fun W' hW => ⟨A, c, e, h1, foot_C k94_heap h2 W' hW⟩
structure Fit (o : S41) : Prop where
 len : o.f3.length ≤ 1048576
 at_ : 0 ≤ o.f1 ∧ o.f1 ≤ 1048576
 wid : 0 ≤ wid o ∧ wid o ≤ 1048576
end Go.Proofs.YtloccjkcmlkifaaDoor
end

section
/- The document's small functions, told of whole operations. -/
namespace Go.Proofs.YtloccjkcmlkifaaDoor
open Go.RowKit Go.Proofs.YtloccjkcmlkifaaDoor.PAll Go.Proofs.YtloccjkcmlkifaaDoorW.PrintWords

theorem rcopy_any (a : S41) (va : Value) (w : World) (ha : OpC w va a) (hf : fineOp a) : Calls Tryd.prog 22 #[.agg (opA a va)] w (IsOp w a) := by
 obtain ⟨A, c, rfl, h1, h2⟩ := ha
 exact (redraftref05_Copy.calls _ _ _ _ _ A c a.f3 _ _ _ _ _ _ _ _ _ _ _ _ w h2 h1 (copy_is a hf)).mono fun e w' ⟨v, he, hr, hb⟩ => ⟨v, he, hr, hb⟩
end Go.Proofs.YtloccjkcmlkifaaDoor
end

section
/- span.Through, and what the document makes of the same ranges: alike. -/
namespace Go.Proofs.YtloccjkcmlkifaaDoor
open Go.RowKit Go.Proofs.YtloccjkcmlkifaaDoor.PAll Go.Proofs.YtloccjkcmlkifaaDoorW.PrintWords

def Nrm : Int → List S94 → Prop
 | _, [] => True
 | p, r :: t => p < r.f0 ∧ r.f0 < r.f1 ∧ r.f1 ≤ 1048576 ∧ Nrm r.f1 t
theorem nrm_rng (l : List S94) : ∀ (d i : Nat), l.length = i + d → -1 ≤ (if 0 < i then (l.getD (i - 1) z94).f1 else -1) → Nrm (if 0 < i then (l.getD (i - 1) z94).f1 else -1) (l.drop i) → rngFrom l d i = (0, 0) := by
 intro d
 induction d with
 | zero => intro i h _ _; rfl
 | succ d ih =>
  intro i h hp h0
  have hi : i < l.length := by omega
  have hd : l.drop i = l.getD i z94 :: l.drop (i + 1) := by
   rw [List.drop_eq_getElem_cons hi, List.getD_eq_getElem?_getD, List.getElem?_eq_getElem hi]; rfl
  rw [hd] at h0
  obtain ⟨a1, a2, a3, a4⟩ := h0
  unfold rngFrom
  rw [if_pos hi, if_neg (by omega)]
  have c2 : ¬ (0 < i ∧ (l.getD i z94).f0 ≤ (l.getD (i - 1) z94).f1) := by
   rintro ⟨q1, q2⟩
   rw [if_pos q1] at a1
   omega
  rw [if_neg c2]
  refine ih (i + 1) (by omega) ?_ ?_
  · rw [if_pos (by omega), Nat.add_sub_cancel]; omega
  · rw [if_pos (by omega), Nat.add_sub_cancel]; exact a4
theorem ok_rng {l : List S94} (hl : l.length ≤ 32768) (h : Nrm (-1) l) : rngE l = (0, 0) := by
 unfold rngE
 rw [if_neg (by omega)]
 exact nrm_rng l l.length 0 (by omega) (by simp) (by simpa using h)
theorem Nrm.mono {p q : Int} : ∀ {l : List S94}, Nrm p l → q ≤ p → Nrm q l
 | [], _, _ => trivial
 | _ :: _, h, hq => ⟨by have := h.1; omega, h.2⟩
theorem Nrm.gap {p : Int} : ∀ {l : List S94}, Nrm p l → Gap l
 | [], _ => trivial
 | [_], h => h.2.1
 | _ :: s :: t, h => ⟨h.2.1, h.2.2.2.1, Nrm.gap (l := s :: t) h.2.2.2⟩

def sp (p n : Int) (r : S94) : List S94 := if r.f1 ≤ p then [r] else if p ≤ r.f0 then [⟨r.f0 + n, r.f1 + n⟩] else [⟨r.f0, p⟩, ⟨p + n, r.f1 + n⟩]
def thrS (p n : Int) (l : List S94) : List S94 := l.flatMap (sp p n)
def bnd (l : List S94) : List S94 × Int := if 32768 < l.length then ([], 21) else (l, 0)
def thrE (l : List S94) (p n : Int) : List S94 × Int := if 0 < l.length ∧ p < lastHi l ∧ 1048576 < lastHi l + n then ([], 24) else bnd (thrS p n l)
end Go.Proofs.YtloccjkcmlkifaaDoor
end

section
/- What a spec names: numbers brought into a row, and ranges of cells (at least one). -/
namespace Go.Proofs.YtloccjkcmlkifaaDoor
open Go.RowKit Go.Proofs.YtloccjkcmlkifaaDoor.PAll Go.Proofs.YtloccjkcmlkifaaDoorW.PrintWords

theorem within_is (x n : Int) (hn : n ≤ 1048576) : ∃ r, redraftlaw05_within.f x n = some r ∧ 0 ≤ r ∧ (1 ≤ n → r < n) ∧ (n < 1 → r = 0) := by
 unfold redraftlaw05_within.f
 by_cases c : n < 1
 · rw [if_pos c]; exact ⟨0, rfl, by omega, by omega, fun _ => rfl⟩
 · rw [if_neg c, if_neg (by omega)]
   have h1 := Int.tmod_lt_of_pos x (show 0 < n by omega)
   have h2 := Int.lt_tmod_of_pos x (show 0 < n by omega)
   by_cases c2 : Int.tmod x n < 0
   · rw [if_pos c2, wrap_id (by omega) (by omega)]
     exact ⟨_, rfl, by omega, by omega, by omega⟩
   · rw [if_neg c2]
     exact ⟨_, rfl, by omega, by omega, by omega⟩
def Acc (acc : List S94) (i : Int) : Prop := acc = [] ∨ ∃ p s, acc = p ++ [s] ∧ Nrm (-1) (p ++ [s]) ∧ s.f1 ≤ i
theorem nrm_app : ∀ {acc : List S94} {p : Int} {s r : S94}, Nrm p (acc ++ [s]) → s.f1 < r.f0 → r.f0 < r.f1 → r.f1 ≤ 1048576 → Nrm p (acc ++ [s] ++ [r])
 | [], _, _, _, ⟨h1, h2, h3, _⟩, h4, h5, h6 => ⟨h1, h2, h3, h4, h5, h6, trivial⟩
 | _ :: _, _, _, _, ⟨h1, h2, h3, h⟩, h4, h5, h6 => ⟨h1, h2, h3, nrm_app h h4 h5 h6⟩
theorem nrm_set : ∀ {acc : List S94} {p e : Int} {s : S94}, Nrm p (acc ++ [s]) → s.f0 < e → e ≤ 1048576 → Nrm p (acc ++ [⟨s.f0, e⟩])
 | [], _, _, _, ⟨h1, _, _, _⟩, h4, h5 => ⟨h1, h4, h5, trivial⟩
 | _ :: _, _, _, _, ⟨h1, h2, h3, h⟩, h4, h5 => ⟨h1, h2, h3, nrm_set h h4 h5⟩
theorem nrm_end : ∀ {acc : List S94} {p : Int} {s : S94}, Nrm p (acc ++ [s]) → s.f0 < s.f1
 | [], _, _, ⟨_, h2, _, _⟩ => h2
 | _ :: _, _, _, ⟨_, _, _, h⟩ => nrm_end h
theorem rd_snoc (p : List S94) (s : S94) : rd_T94 (p ++ [s]) ((p.length : Nat) : Int) = s := by unfold rd_T94; rw [Int.toNat_natCast]; simp
theorem pick_l2 (n : Nat) (hn : n ≤ 1048576) (bs : List Bool) (hb : n < bs.length) : ∀ (d k i : Nat) (acc : List S94), n = i + d → Acc acc i → acc.length ≤ i → d + 1 ≤ k →
 ∃ r, redraftlaw05_picked.l2 k (n : Int) bs acc (i : Int) = some r ∧ Acc r n ∧ ((acc ≠ [] ∨ ∃ q : Nat, i ≤ q ∧ q < n ∧ bs.getD q false = true) → r ≠ []) := by
 intro d
 induction d with
 | zero =>
  intro k i acc h1 h2 h3 hk
  obtain ⟨k, rfl⟩ : ∃ m, k = m + 1 := ⟨k - 1, by omega⟩
  rw [redraftlaw05_picked.l2, if_neg (by omega)]
  refine ⟨acc, rfl, by rw [show n = i by omega]; exact h2, fun h => ?_⟩
  rcases h with h | ⟨q, h4, h5, _⟩
  · exact h
  · omega
 | succ d ih =>
  intro k i acc h1 h2 h3 hk
  obtain ⟨k, rfl⟩ : ∃ m, k = m + 1 := ⟨k - 1, by omega⟩
  have q1 : (i : Int) < (n : Int) := by omega
  have q2 : (0 : Int) ≤ (i : Int) := by omega
  have q3 : (i : Int) < (bs.length : Int) := by omega
  have q4 : ((i : Int) + 1) = ((i + 1 : Nat) : Int) := by omega
  have w1 : wrap64 ((i : Int) + 1) = ((i + 1 : Nat) : Int) := by rw [wrap_id (by omega) (by omega)]; omega
  have hrd : rdOf false bs (i : Int) = bs.getD i false := by unfold rdOf; rw [Int.toNat_natCast]
  rw [redraftlaw05_picked.l2, if_pos q1, if_pos q2, if_pos q3, w1, hrd]
  have g1 : n = (i + 1) + d := by omega
  have g3 : d + 1 ≤ k := by omega
  have hacc : acc.length < 8796093022208 := by omega
  by_cases c : bs.getD i false = true
  · rw [if_pos c]
    have fin : ∀ acc', acc' ≠ [] → Acc acc' ((i + 1 : Nat) : Int) → acc'.length ≤ i + 1 → ∃ r, redraftlaw05_picked.l2 k (n : Int) bs acc' ((i + 1 : Nat) : Int) = some r ∧ Acc r n ∧ ((acc ≠ [] ∨ ∃ q : Nat, i ≤ q ∧ q < n ∧ bs.getD q false = true) → r ≠ []) := fun acc' hne ha hl => by
     obtain ⟨r, e, h5, h6⟩ := ih k (i + 1) acc' g1 ha hl g3
     exact ⟨r, e, h5, fun _ => h6 (.inl hne)⟩
    rcases h2 with rfl | ⟨p, s, rfl, h5, h6⟩
    · rw [if_neg (by simp), if_pos (by simp)]
      exact fin _ (by simp) (.inr ⟨[], _, rfl, ⟨by show (-1 : Int) < (i : Int); omega, by show (i : Int) < ((i + 1 : Nat) : Int); omega, by show ((i + 1 : Nat) : Int) ≤ 1048576; omega, trivial⟩, Int.le_refl _⟩) (by simp)
    · have e1 : (((p ++ [s]).length : Nat) : Int) - 1 = ((p.length : Nat) : Int) := by simp
      have hpl : p.length + 1 ≤ i := by simpa using h3
      have w2 : wrap64 ((((p ++ [s]).length : Nat) : Int) - 1) = ((p.length : Nat) : Int) := by rw [e1, wrap_id (by omega) (by omega)]
      have hs := nrm_end h5
      rw [w2, rd_snoc, Int.toNat_natCast, if_pos (by simp), if_pos (by omega), if_pos (by simp; omega)]
      by_cases c2 : s.f1 = (i : Int)
      · rw [if_pos c2]
        have e2 : (p ++ [s]).set p.length (⟨s.f0, ((i + 1 : Nat) : Int)⟩ : S94) = p ++ [⟨s.f0, ((i + 1 : Nat) : Int)⟩] := by simp
        rw [e2]
        exact fin _ (by simp) (.inr ⟨p, _, rfl, nrm_set h5 (by omega) (by omega), Int.le_refl _⟩) (by simp; omega)
      · rw [if_neg c2, if_pos hacc]
        exact fin _ (by simp) (.inr ⟨p ++ [s], _, rfl, nrm_app h5 (by show s.f1 < (i : Int); omega) (by show (i : Int) < ((i + 1 : Nat) : Int); omega) (by show ((i + 1 : Nat) : Int) ≤ 1048576; omega), Int.le_refl _⟩) (by simp; omega)
  · rw [if_neg c]
    have h2' : Acc acc ((i + 1 : Nat) : Int) := by
     rcases h2 with h | ⟨p, s, h, h5, h6⟩
     · exact .inl h
     · exact .inr ⟨p, s, h, h5, by omega⟩
    obtain ⟨r, e, h5, h6⟩ := ih k (i + 1) acc g1 h2' (by omega) g3
    refine ⟨r, e, h5, fun h => h6 ?_⟩
    rcases h with h | ⟨q, h7, h8, h9⟩
    · exact .inl h
    · have : q ≠ i := fun e => c (e ▸ h9)
      exact .inr ⟨q, by omega, h8, h9⟩
def Marked (n : Nat) (bs : List Bool) : Prop := ∃ q : Nat, q < n ∧ bs.getD q false = true
theorem Marked.set {n : Nat} {bs : List Bool} (h : Marked n bs) (j : Nat) : Marked n (bs.set j true) := by
 obtain ⟨q, h1, h2⟩ := h
 refine ⟨q, h1, ?_⟩
 rw [List.getD_eq_getElem?_getD, List.getElem?_set]
 by_cases c : j = q
 · rw [if_pos c]
   by_cases c2 : j < bs.length
   · rw [if_pos c2]; rfl
   · rw [List.getD_eq_getElem?_getD, List.getElem?_eq_none (by omega)] at h2; simp at h2
 · rw [if_neg c, ← List.getD_eq_getElem?_getD]; exact h2
theorem Marked.mk {n : Nat} {bs : List Bool} (j : Nat) (hj : j < n) (hb : n < bs.length) : Marked n (bs.set j true) := by
 refine ⟨j, hj, ?_⟩
 rw [List.getD_eq_getElem?_getD, List.getElem?_set, if_pos rfl, if_pos (by omega)]; rfl
def PickOK (r : List S94) (n : Nat) : Prop := r ≠ [] ∧ Nrm (-1) r ∧ ∃ p s, r = p ++ [s] ∧ s.f1 ≤ (n : Int)
theorem Acc.ok {r : List S94} {n : Nat} (h : Acc r n) (hne : r ≠ []) : PickOK r n := by
 rcases h with h | ⟨p, s, h, h5, h6⟩
 · exact absurd h hne
 · exact ⟨hne, h ▸ h5, p, s, h, h6⟩
theorem pick_j3 (n : Nat) (hn : n ≤ 1048576) (bs : List Bool) (hb : n < bs.length) (hm : Marked n bs) (k : Nat) (hk : n + 2 ≤ k) : ∃ r, redraftlaw05_picked.j3 k (n : Int) bs = some r ∧ PickOK r n := by
 obtain ⟨k, rfl⟩ : ∃ m, k = m + 1 := ⟨k - 1, by omega⟩
 obtain ⟨r, e, h5, h6⟩ := pick_l2 n hn bs hb n k 0 [] (by omega) (.inl rfl) (by simp) (by omega)
 obtain ⟨q, h1, h2⟩ := hm
 exact ⟨r, by rw [redraftlaw05_picked.j3]; exact e, h5.ok (h6 (.inr ⟨q, by omega, h1, h2⟩))⟩
theorem pick_l1 (n : Nat) (hn : 1 ≤ n ∧ n ≤ 1048576) (a b c : Int) (l : List Int) (z : Bool) : ∀ (d k i : Nat) (bs : List Bool), i + d = 41 → n < bs.length → Marked n bs → n + d + 3 ≤ k →
 ∃ r, redraftlaw05_picked.l1 k (n : Int) bs (i : Int) a b c l z = some r ∧ PickOK r n := by
 intro d
 induction d with
 | zero =>
  intro k i bs h1 hb hm hk
  obtain ⟨k, rfl⟩ : ∃ m, k = m + 1 := ⟨k - 1, by omega⟩
  rw [redraftlaw05_picked.l1, if_neg (show ¬ (i : Int) < 40 by omega)]
  by_cases c1 : (i : Int) < (l.length : Int)
  · rw [if_pos c1]; exact pick_j3 n hn.2 bs hb hm k (by omega)
  · rw [if_neg c1]; exact pick_j3 n hn.2 bs hb hm k (by omega)
 | succ d ih =>
  intro k i bs h1 hb hm hk
  obtain ⟨k, rfl⟩ : ∃ m, k = m + 1 := ⟨k - 1, by omega⟩
  rw [redraftlaw05_picked.l1]
  by_cases c1 : (i : Int) < (l.length : Int)
  · rw [if_pos c1]
    by_cases c2 : (i : Int) < 40
    · rw [if_pos c2, if_pos (show (0 : Int) ≤ (i : Int) by omega)]
      obtain ⟨t, e, h5, h6, _⟩ := within_is (rd l (i : Int)) (n : Int) (by omega)
      have ht := h6 (by omega)
      rw [e]
      simp only [Option.bind_some]
      have w1 : wrap64 ((i : Int) + 1) = ((i + 1 : Nat) : Int) := by rw [wrap_id (by omega) (by omega)]; omega
      rw [if_pos h5, if_pos (by omega), w1]
      exact ih k (i + 1) _ (by omega) (by simpa using hb) (hm.set _) (by omega)
    · rw [if_neg c2]; exact pick_j3 n hn.2 bs hb hm k (by omega)
  · rw [if_neg c1]; exact pick_j3 n hn.2 bs hb hm k (by omega)
theorem pick_j1 (n : Nat) (hn : 1 ≤ n ∧ n ≤ 1048576) (a b c : Int) (l : List Int) (z : Bool) (k : Nat) (bs : List Bool) (hb : n < bs.length) (hm : Marked n bs) (hk : n + 45 ≤ k) :
 ∃ r, redraftlaw05_picked.j1 k (n : Int) bs a b c l z = some r ∧ PickOK r n := by
 obtain ⟨k, rfl⟩ : ∃ m, k = m + 1 := ⟨k - 1, by omega⟩
 rw [redraftlaw05_picked.j1]
 exact pick_l1 n hn a b c l z 41 k 0 bs (by omega) hb hm (by omega)
theorem pick_l0 (n : Nat) (hn : 1 ≤ n ∧ n ≤ 1048576) (a b c : Int) (l : List Int) (z : Bool) (lo : Nat) : ∀ (d k i : Nat) (bs : List Bool), n = i + d → n < bs.length → (Marked n bs ∨ i = lo ∧ lo < n) → n + d + 47 ≤ k →
 ∃ r, redraftlaw05_picked.l0 k (n : Int) bs (lo : Int) (i : Int) a b c l z = some r ∧ PickOK r n := by
 intro d
 induction d with
 | zero =>
  intro k i bs h1 hb hm hk
  obtain ⟨k, rfl⟩ : ∃ m, k = m + 1 := ⟨k - 1, by omega⟩
  rw [redraftlaw05_picked.l0, if_neg (by omega)]
  rcases hm with hm | ⟨_, _⟩
  · exact pick_j1 n hn a b c l z k bs hb hm (by omega)
  · omega
 | succ d ih =>
  intro k i bs h1 hb hm hk
  obtain ⟨k, rfl⟩ : ∃ m, k = m + 1 := ⟨k - 1, by omega⟩
  rw [redraftlaw05_picked.l0, if_pos (by omega)]
  obtain ⟨t, e, h5, h6, _⟩ := within_is c 4 (by omega)
  have ht := h6 (by omega)
  by_cases hlo : lo ≤ n
  · have w2 : wrap64 ((lo : Int) + t) = (lo : Int) + t := wrap_id (by omega) (by omega)
    rw [e]
    simp only [Option.bind_some]
    rw [w2]
    by_cases c1 : (i : Int) ≤ (lo : Int) + t
    · have w1 : wrap64 ((i : Int) + 1) = ((i + 1 : Nat) : Int) := by rw [wrap_id (by omega) (by omega)]; omega
      rw [if_pos c1, if_pos (by omega), if_pos (by omega), w1, Int.toNat_natCast]
      exact ih k (i + 1) _ (by omega) (by simpa using hb) (.inl (Marked.mk i (by omega) hb)) (by omega)
    · rw [if_neg c1]
      rcases hm with hm | ⟨h7, _⟩
      · exact pick_j1 n hn a b c l z k bs hb hm (by omega)
      · omega
  · rcases hm with hm | ⟨_, h⟩
    · rw [e]
      simp only [Option.bind_some]
      by_cases c1 : (i : Int) ≤ wrap64 ((lo : Int) + t)
      · have w1 : wrap64 ((i : Int) + 1) = ((i + 1 : Nat) : Int) := by rw [wrap_id (by omega) (by omega)]; omega
        rw [if_pos c1, if_pos (by omega), if_pos (by omega), w1, Int.toNat_natCast]
        exact ih k (i + 1) _ (by omega) (by simpa using hb) (.inl (Marked.mk i (by omega) hb)) (by omega)
      · rw [if_neg c1]; exact pick_j1 n hn a b c l z k bs hb hm (by omega)
    · omega
theorem picked_is (n : Nat) (hn : 1 ≤ n ∧ n ≤ 1048576) (a b c : Int) (l : List Int) (z : Bool) : ∃ k r, redraftlaw05_picked.f k a b c l z (n : Int) = some r ∧ PickOK r n := by
 obtain ⟨t, e, h5, h6, _⟩ := within_is b (n : Int) (by omega)
 have ht := h6 (by omega)
 obtain ⟨lo, rfl⟩ : ∃ m : Nat, t = (m : Int) := ⟨t.toNat, by omega⟩
 have w1 : wrap64 ((n : Int) + 1) = ((n + 1 : Nat) : Int) := by rw [wrap_id (by omega) (by omega)]; omega
 -- the first loop begins at lo
 obtain ⟨r, e2, h7⟩ := pick_l0 n hn a b c l z lo (n - lo) (2 * n + 47) lo (List.replicate (n + 1) false) (by omega) (by simp) (.inr ⟨rfl, by omega⟩) (by omega)
 refine ⟨2 * n + 47, r, ?_, h7⟩
 unfold redraftlaw05_picked.f
 rw [w1, Int.toNat_natCast, if_pos (by omega), if_pos (by omega), e]
 simp only [Option.bind_some]
 exact e2
end Go.Proofs.YtloccjkcmlkifaaDoor
end

section
/- xform.include, told of whole operations. -/
namespace Go.Proofs.YtloccjkcmlkifaaDoor
open Go.RowKit Go.Proofs.YtloccjkcmlkifaaDoor.PAll Go.Proofs.YtloccjkcmlkifaaDoorW.PrintWords

def incP (a b : S41) (e : Bool) (r : List S94 × Int) : S41 × Int :=
 if clashB a b = true then (z41, 50) else if b.f0.f1 ≠ 1 then (a, 0)
 else if a.f0.f1 = 1 then (if b.f1 < a.f1 ∨ (b.f1 = a.f1 ∧ e = true) then moveE a (a.f1 + wid b) else (a, 0))
 else if a.f0.f1 = 2 ∨ a.f0.f1 = 3 then rangedE a r else (a, 0)

end Go.Proofs.YtloccjkcmlkifaaDoor
end

section
/- What the document finds of ranges behind an insert is what span.Through makes of them; an include of what is right is right. -/
namespace Go.Proofs.YtloccjkcmlkifaaDoor
open Go.RowKit Go.Proofs.YtloccjkcmlkifaaDoor.PAll Go.Proofs.YtloccjkcmlkifaaDoorW.PrintWords

def NrmB (B : Int) : Int → List S94 → Prop
 | _, [] => True
 | p, r :: t => p < r.f0 ∧ r.f0 < r.f1 ∧ r.f1 ≤ B ∧ NrmB B r.f1 t
theorem NrmB.mono {B p q : Int} : ∀ {l : List S94}, NrmB B p l → q ≤ p → NrmB B q l
 | [], _, _ => trivial
 | _ :: _, h, hq => ⟨by have := h.1; omega, h.2⟩
theorem NrmB.gap {B p : Int} : ∀ {l : List S94}, NrmB B p l → Gap l
 | [], _ => trivial
 | [_], h => h.2.1
 | _ :: s :: t, h => ⟨h.2.1, h.2.2.2.1, NrmB.gap (l := s :: t) h.2.2.2⟩
theorem lastHi_snoc (l : List S94) (r : S94) : lastHi (l ++ [r]) = r.f1 := by
 unfold lastHi
 rw [List.getD_eq_getElem?_getD]
 simp
end Go.Proofs.YtloccjkcmlkifaaDoor
end

section
/- The document's include, told of whole operations: it answers as the program's. -/
namespace Go.Proofs.YtloccjkcmlkifaaDoor
open Go.RowKit Go.Proofs.YtloccjkcmlkifaaDoor.PAll Go.Proofs.YtloccjkcmlkifaaDoorW.PrintWords Go.Proofs.YtloccjkcmlkifaaDoorW.PrintLast

attribute [local go_sem high] eqA35 idx35_0 idx35_1
end Go.Proofs.YtloccjkcmlkifaaDoor
end

section
/- The document finds of ranges behind an insert what span.Through makes of them; an include of what is right is right. -/
namespace Go.Proofs.YtloccjkcmlkifaaDoor
open Go.RowKit Go.Proofs.YtloccjkcmlkifaaDoor.PAll Go.Proofs.YtloccjkcmlkifaaDoorW.PrintWords

structure Good (o : S41) : Prop where
 own : ownE o = 0
 fine : fineOp o
theorem Good.kind {o : S41} (g : Good o) : o.f0.f1 = 1 ∨ o.f0.f1 = 2 ∨ o.f0.f1 = 3 ∨ o.f0.f1 = 4 := by have := own_ok g.own; omega
def incE (a b : S41) (e : Bool) : S41 × Int := incP a b e (thrE a.f3 b.f1 (wid b))
end Go.Proofs.YtloccjkcmlkifaaDoor
end

section
/- What an operation makes of a row of cells, as plain lists: does, fold. -/
namespace Go.Proofs.YtloccjkcmlkifaaDoor
open Go.RowKit Go.Proofs.YtloccjkcmlkifaaDoor.PAll Go.Proofs.YtloccjkcmlkifaaDoorW.PrintWords

def txL : List ByteArray := [⟨#[97]⟩, ⟨#[97, 195, 169]⟩, ⟨#[226, 130, 172, 97, 195, 169]⟩, ⟨#[122, 195, 169, 240, 159, 152, 128, 97]⟩, ⟨#[97, 98, 99, 100, 101]⟩]
def tx (j : Nat) : ByteArray := txL.getD j ⟨#[]⟩
theorem tx_chk (j : Nat) (h : j < 5) : (chk (tx j)).1 = (j : Int) + 1 ∧ (chk (tx j)).2.2 = 0 ∧ (tx j).size ≤ 20 := by
 match j, h with
 | 0, _ => decide +kernel
 | 1, _ => decide +kernel
 | 2, _ => decide +kernel
 | 3, _ => decide +kernel
 | 4, _ => decide +kernel
structure Stands (o : S41) (n : Nat) : Prop where
 kind : 1 ≤ o.f0.f1 ∧ o.f0.f1 ≤ 4
 ins : o.f0.f1 = 1 → 0 ≤ o.f1 ∧ o.f1 ≤ (n : Int) ∧ ∃ j, j < 5 ∧ o.f2 = tx j
 cov : o.f0.f1 = 2 ∨ o.f0.f1 = 3 → 0 < o.f3.length ∧ Nrm (-1) o.f3 ∧ lastHi o.f3 ≤ (n : Int)
theorem Stands.wid {o : S41} {n : Nat} (h : Stands o n) : 0 ≤ wid o ∧ wid o ≤ 5 := by
 unfold Go.Proofs.YtloccjkcmlkifaaDoor.wid
 by_cases c : o.f0.f1 = 1
 · rw [if_pos c]
   obtain ⟨_, _, j, hj, e⟩ := h.ins c
   rw [e, (tx_chk j hj).1]; omega
 · rw [if_neg c]; omega
theorem lwidth_is {o : S41} {n : Nat} (h : Stands o n) : redraftlaw05_width.f 20 o.f0.f0.f0 o.f0.f0.f1 o.f0.f1 o.f1 o.f2 o.f3 o.f4.f0 o.f4.f1 o.f5 = some (wid o) := by
 unfold redraftlaw05_width.f Go.Proofs.YtloccjkcmlkifaaDoor.wid
 by_cases c : o.f0.f1 = 1
 · rw [if_pos c, if_pos c]
   obtain ⟨_, _, j, hj, e⟩ := h.ins c
   rw [e, (tx_chk j hj).1]
   generalize o.f0.f0.f0 = a, o.f0.f0.f1 = b, o.f0.f1 = d, o.f1 = p, o.f3 = l, o.f4.f0 = q, o.f4.f1 = r, o.f5 = s
   clear e c h
   rcases (by omega : j = 0 ∨ j = 1 ∨ j = 2 ∨ j = 3 ∨ j = 4) with rfl | rfl | rfl | rfl | rfl <;> kernel_rfl
 · rw [if_neg c, if_neg c]
def newC (o : S41) (k : Nat) : List S48 := (List.range k).map fun (i : Nat) => (⟨⟨o.f0.f0.f0, o.f0.f0.f1⟩, (i : Int), 0⟩ : S48)
def insC (l : List S48) (o : S41) : List S48 := l.take o.f1.toNat ++ newC o (wid o).toNat ++ l.drop o.f1.toNat
def bumpC (by_ : Int) (c : S48) : S48 := ⟨⟨c.f0.f0, c.f0.f1⟩, c.f1, wrap64 (c.f2 + by_)⟩
def inR (r : S94) (i : Nat) : Bool := decide (r.f0 ≤ (i : Int) ∧ (i : Int) < r.f1)
def covB (rs : List S94) (i : Nat) : Bool := rs.any (inR · i)
def hidC (by_ : Int) (rs : List S94) (l : List S48) : List S48 := l.mapIdx fun i c => if covB rs i = true then bumpC by_ c else c
def doesE (l : List S48) (o : S41) : List S48 := if o.f0.f1 = 1 then insC l o else if o.f0.f1 = 2 then hidC 1 o.f3 l else if o.f0.f1 = 3 then hidC (-1) o.f3 l else l
theorem hidC_len (b : Int) (rs : List S94) (l : List S48) : (hidC b rs l).length = l.length := by unfold hidC; simp
theorem hidC_at (b : Int) (rs : List S94) (l : List S48) (i : Nat) : (hidC b rs l)[i]? = (l[i]?).map fun c => if covB rs i = true then bumpC b c else c := by unfold hidC; rw [List.getElem?_mapIdx]
theorem insC_len (l : List S48) (o : S41) (h : o.f1.toNat ≤ l.length) : (insC l o).length = l.length + (wid o).toNat := by unfold insC newC; simp; omega
theorem nrm_at : ∀ {l : List S94} {x : Int} (i : Nat), Nrm x l → i < l.length → x < (l.getD i z94).f0 ∧ (l.getD i z94).f0 < (l.getD i z94).f1 ∧ (∀ j, j < i → (l.getD j z94).f1 < (l.getD i z94).f0)
 | r :: t, x, 0, h, _ => ⟨h.1, h.2.1, fun j hj => by omega⟩
 | r :: t, x, i + 1, h, hi => by
  obtain ⟨h1, h2, h3⟩ := nrm_at (l := t) i h.2.2.2 (by simpa using hi)
  have ha := h.1; have hb := h.2.1
  refine ⟨by rw [List.getD_cons_succ]; omega, by rw [List.getD_cons_succ]; exact h2, fun j hj => ?_⟩
  rw [List.getD_cons_succ]
  cases j with
  | zero => rw [List.getD_cons_zero]; exact h1
  | succ j => rw [List.getD_cons_succ]; exact h3 j (by omega)
theorem nrm_hi_last {l : List S94} {x : Int} (h : Nrm x l) (i : Nat) (hi : i < l.length) : (l.getD i z94).f1 ≤ lastHi l := by
 unfold lastHi
 by_cases c : i = l.length - 1
 · rw [← c]; exact Int.le_refl _
 · obtain ⟨_, h2, h3⟩ := nrm_at (l.length - 1) h (by omega)
   have := h3 i (by omega)
   omega
theorem covB_snoc (rs : List S94) (r : S94) (i : Nat) : covB (rs ++ [r]) i = (covB rs i || inR r i) := by unfold covB; simp
def bmp (b : Int) (lo i : Int) (l : List S48) : List S48 := l.mapIdx fun j c => if lo ≤ (j : Int) ∧ (j : Int) < i then bumpC b c else c
theorem bmp_len (b lo i : Int) (l : List S48) : (bmp b lo i l).length = l.length := by unfold bmp; simp
theorem bmp_at (b lo i : Int) (l : List S48) (j : Nat) : (bmp b lo i l)[j]? = (l[j]?).map fun c => if lo ≤ (j : Int) ∧ (j : Int) < i then bumpC b c else c := by unfold bmp; rw [List.getElem?_mapIdx]
theorem bmp_zero (b lo : Int) (l : List S48) : bmp b lo lo l = l := by
 refine List.ext_getElem? fun j => ?_
 rw [bmp_at]
 cases l[j]? with
 | none => rfl
 | some c => rw [Option.map_some, if_neg (by omega)]
theorem bmp_step (b lo : Int) (i : Nat) (l : List S48) (h : lo ≤ (i : Int)) (hi : i < l.length) : (bmp b lo i l).set i (bumpC b ((bmp b lo i l).getD i z48)) = bmp b lo ((i + 1 : Nat) : Int) l := by
 have e : (bmp b lo i l).getD i z48 = l.getD i z48 := by
  rw [List.getD_eq_getElem?_getD, bmp_at, List.getD_eq_getElem?_getD, List.getElem?_eq_getElem hi, Option.map_some, if_neg (by omega)]
 rw [e]
 refine List.ext_getElem? fun j => ?_
 rw [List.getElem?_set, bmp_len, bmp_at, bmp_at]
 by_cases c : i = j
 · subst c
   rw [if_pos rfl, if_pos hi, List.getElem?_eq_getElem hi, Option.map_some, if_pos ⟨h, by omega⟩, List.getD_eq_getElem?_getD, List.getElem?_eq_getElem hi]
   rfl
 · rw [if_neg c]
   cases l[j]? with
   | none => rfl
   | some x =>
    rw [Option.map_some, Option.map_some]
    by_cases c2 : lo ≤ (j : Int) ∧ (j : Int) < (i : Int)
    · rw [if_pos c2, if_pos ⟨c2.1, by omega⟩]
    · rw [if_neg c2, if_neg (fun h => c2 ⟨h.1, by omega⟩)]
theorem bmp_hid (b : Int) (rs : List S94) (i : Nat) (hi : i < rs.length) {x : Int} (hx : Nrm x rs) (l : List S48) : bmp b (rs.getD i z94).f0 (rs.getD i z94).f1 (hidC b (rs.take i) l) = hidC b (rs.take (i + 1)) l := by
 have ht : rs.take (i + 1) = rs.take i ++ [rs.getD i z94] := by
  rw [List.take_add_one, List.getElem?_eq_getElem hi, List.getD_eq_getElem?_getD, List.getElem?_eq_getElem hi]; rfl
 obtain ⟨_, _, h3⟩ := nrm_at i hx hi
 refine List.ext_getElem? fun j => ?_
 rw [bmp_at, hidC_at, hidC_at, ht]
 cases l[j]? with
 | none => rfl
 | some c =>
  simp only [Option.map_some]
  rw [covB_snoc]
  by_cases c2 : (rs.getD i z94).f0 ≤ (j : Int) ∧ (j : Int) < (rs.getD i z94).f1
  · have hn : covB (rs.take i) j = false := by
     unfold covB
     rw [List.any_eq_false]
     intro r hr
     obtain ⟨q, hq⟩ := List.mem_iff_getElem?.1 hr
     rw [List.getElem?_take] at hq
     by_cases hqi : q < i
     · rw [if_pos hqi] at hq
       have := h3 q hqi
       rw [List.getD_eq_getElem?_getD, hq] at this
       unfold inR
       rw [Option.getD_some] at this
       simp; omega
     · rw [if_neg hqi] at hq; cases hq
    have hin : inR (rs.getD i z94) j = true := by unfold inR; exact decide_eq_true c2
    rw [if_pos c2, hn, hin, if_neg (by simp), if_pos (by simp)]
  · have hin : inR (rs.getD i z94) j = false := by unfold inR; exact decide_eq_false c2
    rw [if_neg c2, hin, Bool.or_false]
section
variable (l0 : List S48) (b : Int) (a0 a1 a2 a3 : Int) (a4 : ByteArray) (rs : List S94) (a6 a7 : Int) (a8 : Bool)
theorem does_l2 (lo hi : Int) (i9 : Int) (l : List S48) (hh : hi ≤ (l.length : Int)) (hL : l.length ≤ 1048576) : ∀ (d k i : Nat), hi = (i : Int) + d → lo ≤ (i : Int) → d + 1 ≤ k →
 redraftlaw05_does.l2 k l0 (bmp b lo (i : Int) l) b i9 (i : Int) a0 a1 a2 a3 a4 rs a6 a7 a8 lo hi = redraftlaw05_does.l1 (k - (d + 1)) l0 (bmp b lo hi l) b (wrap64 (i9 + 1)) a0 a1 a2 a3 a4 rs a6 a7 a8 := by
 intro d
 induction d with
 | zero =>
  intro k i h1 h2 hk
  obtain ⟨k, rfl⟩ : ∃ m, k = m + 1 := ⟨k - 1, by omega⟩
  rw [redraftlaw05_does.l2, if_neg (by omega), show ((i : Nat) : Int) = hi by omega]
  rfl
 | succ d ih =>
  intro k i h1 h2 hk
  obtain ⟨k, rfl⟩ : ∃ m, k = m + 1 := ⟨k - 1, by omega⟩
  have hi' : i < l.length := by omega
  have w1 : wrap64 ((i : Int) + 1) = ((i + 1 : Nat) : Int) := by rw [wrap_id (by omega) (by omega)]; omega
  have e : rd_T48 (bmp b lo (i : Int) l) (i : Int) = (bmp b lo (i : Int) l).getD i z48 := by unfold rd_T48; rw [Int.toNat_natCast]
  have hs := bmp_step b lo i l h2 hi'
  rw [redraftlaw05_does.l2, if_pos (by omega), if_pos (by omega), if_pos (by rw [bmp_len]; omega), w1, e, Int.toNat_natCast]
  unfold bumpC at hs
  rw [hs, ih k (i + 1) (by omega) (by omega) (by omega), show k + 1 - (d + 1 + 1) = k - (d + 1) by omega]
theorem does_l1 (hR : Nrm (-1) rs) (hn : lastHi rs ≤ (l0.length : Int)) (hL : l0.length ≤ 4096) (hrl : rs.length ≤ 4096) : ∀ (d i : Nat), rs.length = i + d → Ev (fun k =>
 redraftlaw05_does.l1 k l0 (hidC b (rs.take i) l0) b (i : Int) a0 a1 a2 a3 a4 rs a6 a7 a8) (hidC b rs l0, decide (0 < rs.length)) := by
 intro d
 induction d with
 | zero =>
  intro i h1
  refine ⟨1, fun k hk => ?_⟩
  obtain ⟨k, rfl⟩ : ∃ m, k = m + 1 := ⟨k - 1, by omega⟩
  simp only
  rw [redraftlaw05_does.l1, if_neg (by omega), List.take_of_length_le (by omega)]
  congr 2
  simp
 | succ d ih =>
  intro i h1
  have hi : i < rs.length := by omega
  obtain ⟨K, hK⟩ := ih (i + 1) (by omega)
  clear ih
  simp only at hK
  obtain ⟨h2, h3, h4⟩ := nrm_at i hR hi
  have h5 := nrm_hi_last hR i hi
  have w1 : wrap64 ((i : Int) + 1) = ((i + 1 : Nat) : Int) := by rw [wrap_id (by omega) (by omega)]; omega
  obtain ⟨r, hr⟩ : ∃ r, r = rs.getD i z94 := ⟨_, rfl⟩
  have e : rd_T94 rs (i : Int) = r := by unfold rd_T94; rw [Int.toNat_natCast, hr]
  have hb := bmp_hid b rs i hi hR l0
  rw [← hr] at h2 h3 h4 h5 hb
  obtain ⟨lo, hlo⟩ : ∃ m : Nat, r.f0 = (m : Int) := ⟨r.f0.toNat, by omega⟩
  obtain ⟨hh, hhe⟩ : ∃ m : Nat, r.f1 = (m : Int) := ⟨r.f1.toNat, by omega⟩
  have g1 : hh ≤ 4096 ∧ lo < hh := by omega
  refine ⟨K + 5000, fun k hk => ?_⟩
  obtain ⟨k, rfl⟩ : ∃ m, k = m + 2 := ⟨k - 2, by omega⟩
  have g2 : K ≤ k - (hh - lo + 1) ∧ hh - lo + 1 ≤ k := by clear hK h4 w1; omega
  have go : redraftlaw05_does.j5 (k + 1) l0 (hidC b (rs.take i) l0) b (i : Int) false a0 a1 a2 a3 a4 rs a6 a7 a8 r.f0 r.f1 = some (hidC b rs l0, decide (0 < rs.length)) := by
   rw [redraftlaw05_does.j5, if_neg (by simp)]
   have q := does_l2 l0 b a0 a1 a2 a3 a4 rs a6 a7 a8 r.f0 r.f1 (i : Int) (hidC b (rs.take i) l0) (by rw [hidC_len]; omega) (by rw [hidC_len]; omega) (hh - lo) k lo (by omega) (by omega) g2.2
   rw [← hlo, bmp_zero] at q
   rw [q, w1, hb]
   exact hK _ g2.1
  clear g2 hK
  simp only
  rw [redraftlaw05_does.l1, if_pos (by omega), if_pos (by omega), e, if_neg (by omega), if_neg (by omega), if_neg (by omega)]
  by_cases c : (i : Int) > 0
  · have w2 : wrap64 ((i : Int) - 1) = ((i - 1 : Nat) : Int) := by rw [wrap_id (by omega) (by omega)]; omega
    have e2 : rd_T94 rs ((i - 1 : Nat) : Int) = rs.getD (i - 1) z94 := by unfold rd_T94; rw [Int.toNat_natCast]
    have := h4 (i - 1) (by omega)
    rw [if_pos c, w2, if_pos (by omega), if_pos (by omega), e2, decide_eq_false (by omega)]
    exact go
  · rw [if_neg c]; exact go
theorem does_l0 (o : S41) (hw : redraftlaw05_width.f 20 o.f0.f0.f0 o.f0.f0.f1 o.f0.f1 o.f1 o.f2 o.f3 o.f4.f0 o.f4.f1 o.f5 = some (wid o)) (hp : 0 ≤ o.f1 ∧ o.f1 ≤ (l0.length : Int)) (hw5 : 0 ≤ wid o ∧ wid o ≤ 5) (hL : l0.length ≤ 4096) : ∀ (d k i : Nat), wid o = (i : Int) + d → d + 21 ≤ k →
 redraftlaw05_does.l0 k l0 (l0.take o.f1.toNat ++ newC o i) (i : Int) o.f0.f0.f0 o.f0.f0.f1 o.f0.f1 o.f1 o.f2 o.f3 o.f4.f0 o.f4.f1 o.f5 = some (insC l0 o, true) := by
 intro d
 have hm : ∀ k, 20 ≤ k → redraftlaw05_width.f k o.f0.f0.f0 o.f0.f0.f1 o.f0.f1 o.f1 o.f2 o.f3 o.f4.f0 o.f4.f1 o.f5 = some (wid o) := by
  intro k hk
  induction k with
  | zero => omega
  | succ k ih =>
   by_cases c : k = 19
   · subst c; exact hw
   · exact redraftlaw05_width.mono _ _ _ _ _ _ _ _ _ k _ (ih (by omega))
 induction d with
 | zero =>
  intro k i h1 hk
  obtain ⟨k, rfl⟩ : ∃ m, k = m + 1 := ⟨k - 1, by omega⟩
  rw [redraftlaw05_does.l0, hm k (by omega)]
  simp only [Option.bind_some]
  rw [if_neg (by omega), if_pos hp.1, if_pos hp.2, if_pos (by unfold newC; simp; omega)]
  unfold insC
  rw [show (wid o).toNat = i by omega]
 | succ d ih =>
  intro k i h1 hk
  obtain ⟨k, rfl⟩ : ∃ m, k = m + 1 := ⟨k - 1, by omega⟩
  have w1 : wrap64 ((i : Int) + 1) = ((i + 1 : Nat) : Int) := by rw [wrap_id (by omega) (by omega)]; omega
  rw [redraftlaw05_does.l0, hm k (by omega)]
  simp only [Option.bind_some]
  rw [if_pos (by omega), if_pos (by unfold newC; simp; omega), w1]
  have e : l0.take o.f1.toNat ++ newC o i ++ [(⟨(⟨o.f0.f0.f0, o.f0.f0.f1⟩ : S35), (i : Int), 0⟩ : S48)] = l0.take o.f1.toNat ++ newC o (i + 1) := by
   unfold newC; rw [List.range_succ, List.map_append, List.append_assoc]; rfl
  rw [e]
  exact ih k (i + 1) (by omega) (by omega)
end
theorem nrm_len : ∀ {l : List S94} {x : Int}, Nrm x l → -1 ≤ x → 0 < l.length → (l.length : Int) ≤ lastHi l - x
 | [r], x, h, _, _ => by have := h.1; have := h.2.1; show (1 : Int) ≤ r.f1 - x; omega
 | r :: s :: t, x, h, hx, _ => by
  have := nrm_len (l := s :: t) h.2.2.2 (by have := h.1; have := h.2.1; omega) (by simp)
  have h1 := h.1; have h2 := h.2.1
  have e : lastHi (r :: s :: t) = lastHi (s :: t) := rfl
  rw [e]
  simp only [List.length_cons] at this ⊢
  omega
theorem does_is (l : List S48) (o : S41) (hL : l.length ≤ 1000) (h : Stands o l.length) : Ev (fun k => redraftlaw05_does.f k l o.f0.f0.f0 o.f0.f0.f1 o.f0.f1 o.f1 o.f2 o.f3 o.f4.f0 o.f4.f1 o.f5) (doesE l o, true) := by
 have hk := h.kind
 obtain ⟨K1, hK1⟩ : ∃ K1, ∀ b : Int, (b = 1 ∨ b = -1) → o.f0.f1 = 2 ∨ o.f0.f1 = 3 → ∀ k, K1 ≤ k → redraftlaw05_does.l1 k l l b 0 o.f0.f0.f0 o.f0.f0.f1 o.f0.f1 o.f1 o.f2 o.f3 o.f4.f0 o.f4.f1 o.f5 = some (hidC b o.f3 l, true) := by
  by_cases hb : o.f0.f1 = 2 ∨ o.f0.f1 = 3
  · obtain ⟨h1, h2, h3⟩ := h.cov hb
    have h4 := nrm_len h2 (by omega) h1
    have e0 : ∀ b, hidC b (o.f3.take 0) l = l := by
     intro b
     refine List.ext_getElem? fun j => ?_
     rw [hidC_at]
     cases l[j]? <;> simp [covB]
    obtain ⟨K1, q1⟩ := does_l1 l 1 o.f0.f0.f0 o.f0.f0.f1 o.f0.f1 o.f1 o.f2 o.f3 o.f4.f0 o.f4.f1 o.f5 h2 h3 (by omega) (by omega) o.f3.length 0 (by omega)
    obtain ⟨K2, q2⟩ := does_l1 l (-1) o.f0.f0.f0 o.f0.f0.f1 o.f0.f1 o.f1 o.f2 o.f3 o.f4.f0 o.f4.f1 o.f5 h2 h3 (by omega) (by omega) o.f3.length 0 (by omega)
    simp only [e0, decide_eq_true h1] at q1 q2
    refine ⟨K1 + K2, fun b hb _ k hk => ?_⟩
    rcases hb with rfl | rfl
    · exact q1 k (by omega)
    · exact q2 k (by omega)
  · exact ⟨0, fun _ _ h => absurd h hb⟩
 refine ⟨K1 + 40, fun K hK => ?_⟩
 obtain ⟨K, rfl⟩ : ∃ m, K = m + 2 := ⟨K - 2, by omega⟩
 simp only
 unfold redraftlaw05_does.f doesE
 rw [if_pos (by simp; omega)]
 simp only [Option.bind_some, List.nil_append]
 by_cases c1 : o.f0.f1 = 1
 · obtain ⟨p1, p2, _⟩ := h.ins c1
   have hw := h.wid
   have e0 : l.take o.f1.toNat ++ newC o 0 = l.take o.f1.toNat := by unfold newC; simp
   have := does_l0 l o (lwidth_is h) ⟨p1, p2⟩ h.wid (by omega) (wid o).toNat (K + 1) 0 (by omega) (by omega)
   rw [e0] at this
   rw [if_pos c1, if_pos c1, if_neg (by omega), decide_eq_false (by omega), redraftlaw05_does.j0, if_neg (by simp), if_pos p1, if_pos p2]
   simp only [Option.bind_some]
   rw [if_pos (by simp; omega)]
   exact this
 · rw [if_neg c1, if_neg c1]
   have go : ∀ b : Int, (b = 1 ∨ b = -1) → (o.f0.f1 = 2 ∨ o.f0.f1 = 3) → redraftlaw05_does.j3 (K + 1) l l b o.f0.f0.f0 o.f0.f0.f1 o.f0.f1 o.f1 o.f2 o.f3 o.f4.f0 o.f4.f1 o.f5 = some (hidC b o.f3 l, true) := by
    intro b hb h2
    rw [redraftlaw05_does.j3]
    exact hK1 b hb h2 K (by omega)
   by_cases c2 : o.f0.f1 = 2
   · rw [if_pos c2, if_pos c2, redraftlaw05_does.j2, if_pos (by simp [c2]), if_neg (by omega)]
     exact go 1 (.inl rfl) (.inl c2)
   · rw [if_neg c2, if_neg c2]
     by_cases c3 : o.f0.f1 = 3
     · rw [if_pos c3, redraftlaw05_does.j2, if_pos (by simp [c3]), if_pos c3]
       exact go (-1) (.inr rfl) (.inr c3)
     · rw [if_neg c3, redraftlaw05_does.j2, if_neg (by simp [c3])]
       have c4 : o.f0.f1 = 4 := by omega
       rw [c4]; rfl
def foldE : List S48 → List S41 → List S48
 | l, [] => l
 | l, o :: t => foldE (doesE l o) t
def StandsL : List S48 → List S41 → Prop
 | _, [] => True
 | l, o :: t => Stands o l.length ∧ l.length ≤ 1000 ∧ StandsL (doesE l o) t
theorem fold_l0 (run : List S41) (hr : run.length ≤ 1048576) : ∀ (d i : Nat) (l : List S48), run.length = i + d → StandsL l (run.drop i) → Ev (fun k => redraftlaw05_fold.l0 k l run (i : Int)) (foldE l (run.drop i), true) := by
 intro d
 induction d with
 | zero =>
  intro i l h1 h2
  refine ⟨1, fun k hk => ?_⟩
  obtain ⟨k, rfl⟩ : ∃ m, k = m + 1 := ⟨k - 1, by omega⟩
  simp only
  rw [redraftlaw05_fold.l0, if_neg (by omega), List.drop_eq_nil_of_le (by omega)]
  rfl
 | succ d ih =>
  intro i l h1 h2
  have hi : i < run.length := by omega
  obtain ⟨o, ho⟩ : ∃ o, o = run.getD i z41 := ⟨_, rfl⟩
  have hd : run.drop i = o :: run.drop (i + 1) := by
   rw [ho, List.drop_eq_getElem_cons hi, List.getD_eq_getElem?_getD, List.getElem?_eq_getElem hi]; rfl
  have e : rd_T41 run (i : Int) = o := by unfold rd_T41; rw [Int.toNat_natCast, ho]
  have w : wrap64 ((i : Int) + 1) = ((i + 1 : Nat) : Int) := by rw [wrap_id (by omega) (by omega)]; omega
  rw [hd] at h2 ⊢
  obtain ⟨h3, h4, h5⟩ := h2
  obtain ⟨K1, q1⟩ := does_is l o h4 h3
  obtain ⟨K2, q2⟩ := ih (i + 1) _ (by omega) h5
  simp only at q1 q2
  refine ⟨K1 + K2 + 1, fun k hk => ?_⟩
  obtain ⟨k, rfl⟩ : ∃ m, k = m + 1 := ⟨k - 1, by omega⟩
  simp only
  rw [redraftlaw05_fold.l0, if_pos (by omega), if_pos (by omega), e, q1 k (by omega)]
  simp only [Option.bind_some]
  rw [if_pos trivial, w]
  exact q2 k (by omega)
theorem fold_is (l : List S48) (run : List S41) (hr : run.length ≤ 1048576) (h : StandsL l run) : ∃ k, redraftlaw05_fold.f k l run = some (foldE l run, true) := by
 obtain ⟨K, q⟩ := fold_l0 run hr run.length 0 l (by omega) (by simpa using h)
 exact ⟨K, q K (Nat.le_refl _)⟩
def rowE (n : Nat) : List S48 := (List.range n).map fun (i : Nat) => (⟨⟨0, 0⟩, (i : Int), 0⟩ : S48)
theorem row_l0 (n : Nat) (hn : n ≤ 1048576) : ∀ (d i : Nat), n = i + d → redraftlaw05_row.l0 (d + 1) (n : Int) (rowE i) (i : Int) = some (rowE n) := by
 intro d
 induction d with
 | zero =>
  intro i h
  rw [redraftlaw05_row.l0, if_neg (by omega), show i = n by omega]
 | succ d ih =>
  intro i h
  have w1 : wrap64 ((i : Int) + 1) = ((i + 1 : Nat) : Int) := by rw [wrap_id (by omega) (by omega)]; omega
  rw [redraftlaw05_row.l0, if_pos (by omega), if_pos (by unfold rowE; simp; omega), w1]
  have e : rowE i ++ [(⟨(⟨0, 0⟩ : S35), (i : Int), 0⟩ : S48)] = rowE (i + 1) := by unfold rowE; rw [List.range_succ, List.map_append]; rfl
  rw [e]
  exact ih (i + 1) (by omega)
theorem row_is (n : Nat) (hn : n ≤ 1048576) : redraftlaw05_row.f (n + 1) (n : Int) = some (rowE n) := by
 unfold redraftlaw05_row.f
 simpa [rowE] using row_l0 n hn n 0 (by omega)
end Go.Proofs.YtloccjkcmlkifaaDoor
end

section
/- The operation of a spec: made. -/
namespace Go.Proofs.YtloccjkcmlkifaaDoor
open Go.RowKit Go.Proofs.YtloccjkcmlkifaaDoor.PAll Go.Proofs.YtloccjkcmlkifaaDoorW.PrintWords Go.Proofs.YtloccjkcmlkifaaDoorW.PrintLast

def GT (w : World) : Prop := 1 ≤ w.heap.size ∧ ∀ j, j < 5 → w.cell? ⟨0, j, none⟩ = some (.string (tx j))
theorem GT.below {w w' : World} (h : GT w) (hb : Below w.heap.size w w') : GT w' :=
 ⟨by have := hb.size; have := h.1; omega, fun j hj => (hb.cell (p := ⟨0, j, none⟩) (by show 0 < _; have := h.1; omega)).trans (h.2 j hj)⟩
structure MadeOK (o : S41) (c m : Int) (n : Nat) : Prop where
 id : o.f0.f0 = ⟨c, m⟩
 stands : Stands o n
 ins : o.f0.f1 = 1 → o.f3 = [] ∧ o.f4 = ⟨0, 0⟩ ∧ o.f5 = false
 cov : o.f0.f1 = 2 ∨ o.f0.f1 = 3 → o.f1 = 0 ∧ o.f2 = ⟨#[]⟩ ∧ o.f4 = ⟨0, 0⟩ ∧ o.f5 = false
 sta : o.f0.f1 = 4 → o.f1 = 0 ∧ o.f2 = ⟨#[]⟩ ∧ o.f3 = [] ∧ o.f4.f0 = 3 ∧ 1 ≤ o.f4.f1 ∧ o.f4.f1 ≤ 3
section
variable {P : Program} {ops : Array Oper} {rest : List Oper} {o : Oper} {a : Act} {Q : Exit → Act → World → Prop} {w0 W : World} {bs : List Bx} {F : World → Prop} {g : Nat} {t : TypeId} {cs : Array Value}
theorem ev_old (S : Aside0 (St w0 W bs F)) {p : Addr} {v : Value} (hc : w0.cell? p = some v) {N : Tmp} {ty : TypeId} {x : Operand}
 (h : wpList P ops Q rest (a.put (some N) v) W)
 (ho : o.op = .load ty x := by rfl) (hx : a.eval x = .pointer (some p) := by rfl) (hd : o.dst = some N := by rfl)
 (hw : Region.wanted o (yielded ops a.tmps) = true := by first | exact wanted_plain rfl | (refine wanted_on rfl ?_; first | (simp [yielded]; done) | rfl))
 (hrun : W.cell? p = some v → (execOp a.eval o).run P W = .ok (.value v) W := by intro hc_; first | (go_simp; done) | (go_simp; rfl)) : wpList P ops Q (o :: rest) a W :=
 have _ := ho; have _ := hx
 ev_run hw (hrun ((S.out.below.cell (World.block_lt_of_cell? w0 _ hc)).trans hc)) (by rw [hd]; exact h)
theorem ev_set2 (S : Aside0 (St w0 W bs F)) {i : Nat} {j : Nat} {ty : TypeId} {p : Tmp} {v : Operand} {u0 u1 : Value}
 (h : ∀ w', Aside0 (St w0 w' (bs.set i (g, t, (cs.setIfInBounds j u0).setIfInBounds (j + 1) u1)) F) → wpList P ops Q rest a w')
 (ho : o.op = .store ty (.tmp p) v := by rfl) (hp : a.eval (.tmp p) = .pointer (some ⟨g, j, none⟩) := by rfl) (e : bs[i]? = some (g, t, cs) := by first | exact ix0 | exact ix1 | exact ix2 | exact ix3) (hv : a.eval v = .agg #[u0, u1] := by rfl) (hN : o.dst = none := by rfl)
 (hw : Region.wanted o (yielded ops a.tmps) = true := by first | exact wanted_plain rfl | (refine wanted_on rfl ?_; first | (simp [yielded]; done) | rfl)) (hs : Nat.blt (j + 1) cs.size = true := by rfl) (hi : (P.info? ty).map (·.size) = some 2 := by kernel_rfl) (h1 : [u0, u1].all (·.oneCell') = true := by rfl) : wpList P ops Q (o :: rest) a W := by
 have hb := S.out.at_ i e
 have hs := Nat.le_of_ble_eq_true hs
 have hrun : (execOp a.eval o).run P W = .ok .skip (W.setCells g j [u0, u1]) := by
  unfold execOp
  simp only [ho, hp, hv, Sem.run_bind, Sem.run_pure, Result.andThen_ok, run_storeAt_mid W g j ty #[u0, u1] (fun k hk => ⟨by rw [blk_cell hb]; simp at hk ⊢; omega, blk_frozen hb _⟩) hi (by rw [← Array.all_toList]; exact h1)]
 refine ev_skip hw hN hrun (h _ ⟨S.out.put i e (below_setCells _ _ _ S.out.below (S.out.ge i e)) ?_ (fun k hk => setCells_far _ _ _ k hk)⟩)
 exact blk_put (blk_put hb j u0 rfl) (j + 1) u1 rfl
end
set_option maxRecDepth 100000 in
set_option maxHeartbeats 4000000 in
theorem made_any (kd at_ n : Int) (A : Option Addr) (c : Nat) (l : List Int) (on : Bool) (ci m : Int) (total : Nat) (w : World) (hT : GT w) (hr : Kd.C (Kd.int .i64) w A l.length l) (hc : l.length ≤ c) (ht : total ≤ 1000) :
 ∃ o, MadeOK o ci m total ∧ Calls Tryd.prog 29 #[.agg #[.int .i64 kd, .int .i64 at_, .int .i64 n, .slice A l.length c, .bool on], .agg #[.int .i64 ci, .int .i64 m], .int .i64 total] w (IsOp w o) := by
 obtain ⟨k7, h1, b1, b2, _⟩ := within_is kd 7 (by omega)
 replace b2 := b2 (by omega)
 have H1 := Aside0.mk h1
 have S := Aside0.mk (St.init w (F := fun _ => True) (fun _ _ => trivial))
 have HR := Aside0.mk hr; have HC := Aside0.mk hc
 clear h1 hr hc
 by_cases c6 : k7 = 6
 · subst c6
   obtain ⟨t, h2, d1, d2, _⟩ := within_is n 3 (by omega)
   replace d2 := d2 (by omega)
   have H2 := Aside0.mk h2
   clear h2 hT ht b1 b2
   refine ⟨⟨⟨⟨ci, m⟩, 4⟩, 0, ⟨#[]⟩, [], ⟨3, 1 + t⟩, on⟩, ⟨rfl, ⟨by simp, by simp, by simp⟩, by simp, by simp, fun _ => ⟨rfl, rfl, rfl, rfl, by show 1 ≤ 1 + t; omega, by show 1 + t ≤ 3; omega⟩⟩, ?_⟩
   have hq : IntKind.i64.wrap (1 + t) = 1 + t := IntWalk.i64_in _ (by omega)
   clear d1 d2
   go_enter Tryd.func29, Tryd.ntmps29
   go_wp2_with (first | ((with_reducible refine gate_box rfl ?_); refine ev_box S ?_; clear S; intro _ _ S) | ((with_reducible refine gate_new rfl ?_); refine ev_new S 41 zA ?_; clear S; intro _ _ S) | ((with_reducible refine gate_load rfl ?_); refine ev_load S ?_ (hu := Tryd.underlying35)) | ((with_reducible refine gate_load rfl ?_); first | refine ev_load S ?_ | refine ev_fld S ?_) | ((with_reducible refine gate_st rfl ?_); refine ev_store S ?_; clear S; intro _ S) | ((with_reducible refine gate_st rfl ?_); refine ev_set2 S ?_; clear S; intro _ S) | ((with_reducible refine gate_st rfl ?_); refine ev_set S ?_; clear S; intro _ S) | (go_at_call 18; (with_reducible refine (redraftlaw05_within.calls kd 7 _ _ H1.out).mono ?_); rintro e_ w7 ⟨rfl, hb⟩; replace S := Aside0.mk (S.out.step hb.below); clear hb) | (go_at_call 18; (with_reducible refine (redraftlaw05_within.calls n 3 _ _ H2.out).mono ?_); rintro e_ w7 ⟨rfl, hb⟩; replace S := Aside0.mk (S.out.step hb.below); clear hb))
   exact bodyPost_ret (results_cell_row rfl _ _ _ 41 _ (0, 0) _ rfl (S.out.at_ 1 rfl) Tryd.underlying41 rfl (by kernel_rfl)) rfl ⟨.slice none 0 0, rfl, Kd.R_nil _ _ _ _ _, S.out.below⟩
 · have e6 : (k7 == 6) = false := beq_eq_false_iff_ne.mpr c6
   by_cases c3 : k7 < 3 ∨ total = 0
   · obtain ⟨p, h3, p1, p2, _⟩ := within_is at_ ((total : Int) + 1) (by omega)
     replace p2 := p2 (by omega)
     obtain ⟨t, h4, d1, d2, _⟩ := within_is n 5 (by omega)
     replace d2 := d2 (by omega)
     have H3 := Aside0.mk h3; have H4 := Aside0.mk h4
     obtain ⟨j, hj, hjt⟩ : ∃ j : Nat, j < 5 ∧ (j : Int) = t := ⟨t.toNat, by omega, by omega⟩
     refine ⟨⟨⟨⟨ci, m⟩, 1⟩, p, tx j, [], ⟨0, 0⟩, false⟩, ⟨rfl, ⟨by simp, fun _ => ⟨p1, by show p ≤ (total : Int); omega, j, hj, rfl⟩, by simp⟩, fun _ => ⟨rfl, rfl, rfl⟩, by simp, by simp⟩, ?_⟩
     have hq : IntKind.i64.wrap ((total : Int) + 1) = (total : Int) + 1 := IntWalk.i64_in _ (by omega)
     have HX := Aside0.mk (hT.2 j hj)
     subst hjt
     clear h3 h4 hT p1 p2 d1 d2 ht b1 b2 c6
     rcases (by omega : j = 0 ∨ j = 1 ∨ j = 2 ∨ j = 3 ∨ j = 4) with rfl | rfl | rfl | rfl | rfl
     all_goals
      clear hj
      by_cases c4 : k7 < 3
      · have e3 := decide_eq_true c4
        clear c3 c4
        go_enter Tryd.func29, Tryd.ntmps29
        go_wp2_with (first | ((with_reducible refine gate_box rfl ?_); refine ev_box S ?_; clear S; intro _ _ S) | ((with_reducible refine gate_new rfl ?_); refine ev_new S 41 zA ?_; clear S; intro _ _ S) | ((with_reducible refine gate_load rfl ?_); refine ev_load S ?_ (hu := Tryd.underlying35)) | ((with_reducible refine gate_load rfl ?_); first | refine ev_load S ?_ | refine ev_fld S ?_) | ((with_reducible refine gate_st rfl ?_); refine ev_store S ?_; clear S; intro _ S) | ((with_reducible refine gate_st rfl ?_); refine ev_set S ?_; clear S; intro _ S) | ((with_reducible refine gate_load rfl ?_); refine ev_old S HX.out ?_) | (go_at_call 18; (with_reducible refine (redraftlaw05_within.calls kd 7 _ _ H1.out).mono ?_); rintro e_ w7 ⟨rfl, hb⟩; replace S := Aside0.mk (S.out.step hb.below); clear hb) | (go_at_call 18; (with_reducible refine (redraftlaw05_within.calls at_ ((total : Int) + 1) _ _ H3.out).mono ?_); rintro e_ w7 ⟨rfl, hb⟩; replace S := Aside0.mk (S.out.step hb.below); clear hb) | (go_at_call 18; (with_reducible refine (redraftlaw05_within.calls n 5 _ _ H4.out).mono ?_); rintro e_ w7 ⟨rfl, hb⟩; replace S := Aside0.mk (S.out.step hb.below); clear hb))
        exact bodyPost_ret (results_cell_row rfl _ _ _ 41 _ (0, 0) _ rfl (S.out.at_ 1 rfl) Tryd.underlying41 rfl (by kernel_rfl)) rfl ⟨.slice none 0 0, rfl, Kd.R_nil _ _ _ _ _, S.out.below⟩
      · have e3 := decide_eq_false c4
        have e0 : (((total : Nat) : Int) == 0) = true := beq_iff_eq.mpr (by omega)
        clear c3 c4
        go_enter Tryd.func29, Tryd.ntmps29
        go_wp2_with (first | ((with_reducible refine gate_box rfl ?_); refine ev_box S ?_; clear S; intro _ _ S) | ((with_reducible refine gate_new rfl ?_); refine ev_new S 41 zA ?_; clear S; intro _ _ S) | ((with_reducible refine gate_load rfl ?_); refine ev_load S ?_ (hu := Tryd.underlying35)) | ((with_reducible refine gate_load rfl ?_); first | refine ev_load S ?_ | refine ev_fld S ?_) | ((with_reducible refine gate_st rfl ?_); refine ev_store S ?_; clear S; intro _ S) | ((with_reducible refine gate_st rfl ?_); refine ev_set S ?_; clear S; intro _ S) | ((with_reducible refine gate_load rfl ?_); refine ev_old S HX.out ?_) | (go_at_call 18; (with_reducible refine (redraftlaw05_within.calls kd 7 _ _ H1.out).mono ?_); rintro e_ w7 ⟨rfl, hb⟩; replace S := Aside0.mk (S.out.step hb.below); clear hb) | (go_at_call 18; (with_reducible refine (redraftlaw05_within.calls at_ ((total : Int) + 1) _ _ H3.out).mono ?_); rintro e_ w7 ⟨rfl, hb⟩; replace S := Aside0.mk (S.out.step hb.below); clear hb) | (go_at_call 18; (with_reducible refine (redraftlaw05_within.calls n 5 _ _ H4.out).mono ?_); rintro e_ w7 ⟨rfl, hb⟩; replace S := Aside0.mk (S.out.step hb.below); clear hb))
        exact bodyPost_ret (results_cell_row rfl _ _ _ 41 _ (0, 0) _ rfl (S.out.at_ 1 rfl) Tryd.underlying41 rfl (by kernel_rfl)) rfl ⟨.slice none 0 0, rfl, Kd.R_nil _ _ _ _ _, S.out.below⟩
   · obtain ⟨K, r, hP, hne, hN, q, s, hr, hs⟩ := picked_is total (by omega) kd at_ n l on
     have HP := Aside0.mk hP
     have e3 : decide (k7 < 3) = false := decide_eq_false (by omega)
     have et : (((total : Nat) : Int) == 0) = false := beq_eq_false_iff_ne.mpr (by omega)
     have hlast : lastHi r ≤ (total : Int) := by rw [hr, lastHi_snoc]; exact hs
     have hlen : 0 < r.length := by rw [hr]; simp
     by_cases c5 : k7 = 5
     · have e5 := beq_iff_eq.mpr c5
       refine ⟨⟨⟨⟨ci, m⟩, 3⟩, 0, ⟨#[]⟩, r, ⟨0, 0⟩, false⟩, ⟨rfl, ⟨by simp, by simp, fun _ => ⟨hlen, hN, hlast⟩⟩, by simp, fun _ => ⟨rfl, rfl, rfl, rfl⟩, by simp⟩, ?_⟩
       clear hP hne hN hr hs hlast hlen c3 c5 c6 b1 b2 ht hT
       go_enter Tryd.func29, Tryd.ntmps29
       go_wp2_with (first | ((with_reducible refine gate_box rfl ?_); refine ev_box S ?_; clear S; intro _ _ S) | ((with_reducible refine gate_new rfl ?_); refine ev_new S 41 zA ?_; clear S; intro _ _ S) | ((with_reducible refine gate_load rfl ?_); refine ev_load S ?_ (hu := Tryd.underlying35)) | ((with_reducible refine gate_load rfl ?_); refine ev_load S ?_ (hu := Tryd.underlying57)) | ((with_reducible refine gate_load rfl ?_); first | refine ev_load S ?_ | refine ev_fld S ?_) | ((with_reducible refine gate_st rfl ?_); refine ev_store S ?_; clear S; intro _ S) | ((with_reducible refine gate_st rfl ?_); refine ev_set S ?_; clear S; intro _ S) | (go_at_call 18; (with_reducible refine (redraftlaw05_within.calls kd 7 _ _ H1.out).mono ?_); rintro e_ w7 ⟨rfl, hb⟩; replace S := Aside0.mk (S.out.step hb.below); clear hb) | (go_at_call 57; (with_reducible refine (redraftlaw05_picked.calls K kd at_ n A c l on (total : Int) r _ (Kd.C_below HR.out S.out.below) HC.out HP.out).mono ?_); rintro e_ w7 ⟨v, rfl, hR, hb⟩; replace S := Aside0.mk (S.out.addR hb hR); obtain ⟨Av, cv, rfl⟩ := Kd.R_slice hR; clear hb hR))
       exact bodyPost_ret (results_cell_row rfl _ _ _ 41 _ (0, 0) _ rfl (S.out.at_ 1 rfl) Tryd.underlying41 rfl (by kernel_rfl)) rfl ⟨_, rfl, S.out.now.2, S.out.below⟩
     · have e5 := beq_eq_false_iff_ne.mpr c5
       refine ⟨⟨⟨⟨ci, m⟩, 2⟩, 0, ⟨#[]⟩, r, ⟨0, 0⟩, false⟩, ⟨rfl, ⟨by simp, by simp, fun _ => ⟨hlen, hN, hlast⟩⟩, by simp, fun _ => ⟨rfl, rfl, rfl, rfl⟩, by simp⟩, ?_⟩
       clear hP hne hN hr hs hlast hlen c3 c5 c6 b1 b2 ht hT
       go_enter Tryd.func29, Tryd.ntmps29
       go_wp2_with (first | ((with_reducible refine gate_box rfl ?_); refine ev_box S ?_; clear S; intro _ _ S) | ((with_reducible refine gate_new rfl ?_); refine ev_new S 41 zA ?_; clear S; intro _ _ S) | ((with_reducible refine gate_load rfl ?_); refine ev_load S ?_ (hu := Tryd.underlying35)) | ((with_reducible refine gate_load rfl ?_); refine ev_load S ?_ (hu := Tryd.underlying57)) | ((with_reducible refine gate_load rfl ?_); first | refine ev_load S ?_ | refine ev_fld S ?_) | ((with_reducible refine gate_st rfl ?_); refine ev_store S ?_; clear S; intro _ S) | ((with_reducible refine gate_st rfl ?_); refine ev_set S ?_; clear S; intro _ S) | (go_at_call 18; (with_reducible refine (redraftlaw05_within.calls kd 7 _ _ H1.out).mono ?_); rintro e_ w7 ⟨rfl, hb⟩; replace S := Aside0.mk (S.out.step hb.below); clear hb) | (go_at_call 57; (with_reducible refine (redraftlaw05_picked.calls K kd at_ n A c l on (total : Int) r _ (Kd.C_below HR.out S.out.below) HC.out HP.out).mono ?_); rintro e_ w7 ⟨v, rfl, hR, hb⟩; replace S := Aside0.mk (S.out.addR hb hR); obtain ⟨Av, cv, rfl⟩ := Kd.R_slice hR; clear hb hR))
       exact bodyPost_ret (results_cell_row rfl _ _ _ 41 _ (0, 0) _ rfl (S.out.at_ 1 rfl) Tryd.underlying41 rfl (by kernel_rfl)) rfl ⟨_, rfl, S.out.now.2, S.out.below⟩
theorem made_in (kd at_ n : Int) (A : Option Addr) (c : Nat) (l : List Int) (on : Bool) (ci m : Int) (total : Nat) (w : World) (hT : GT w) (hr : Kd.C (Kd.int .i64) w A l.length l) (hc : l.length ≤ c) (ht : total ≤ 1000) :
 Calls Tryd.prog 29 #[.agg #[.int .i64 kd, .int .i64 at_, .int .i64 n, .slice A l.length c, .bool on], .agg #[.int .i64 ci, .int .i64 m], .int .i64 total] w fun e w' => ∃ o v, e = .returned (.agg (opA o v)) ∧ MadeOK o ci m total ∧ OpR w' w.heap.size v o ∧ Below w.heap.size w w' := by
 obtain ⟨o, h, hC⟩ := made_any kd at_ n A c l on ci m total w hT hr hc ht
 exact hC.mono fun e w' ⟨v, h1, h2, h3⟩ => ⟨o, v, h1, h, h2, h3⟩
theorem lwid_any {o : S41} {n : Nat} (h : Stands o n) (v : Value) (w : World) (ho : OpC w v o) : Calls Tryd.prog 28 #[.agg (opA o v)] w fun e w' => e = .returned (.int .i64 (wid o)) ∧ Below w.heap.size w w' := by
 obtain ⟨A, c, rfl, h1, h2⟩ := ho
 exact redraftlaw05_width.calls 20 _ _ _ _ _ A c o.f3 _ _ _ (wid o) w h2 h1 (lwidth_is h)
end Go.Proofs.YtloccjkcmlkifaaDoor
end

section
/- What is made of right operations is right. -/
namespace Go.Proofs.YtloccjkcmlkifaaDoor
open Go.RowKit Go.Proofs.YtloccjkcmlkifaaDoor.PAll Go.Proofs.YtloccjkcmlkifaaDoorW.PrintWords

theorem own_mk_ins {o : S41} (k : o.f0.f1 = 1) (hb : ¬ badID o) (he : extraB o = false) (h1 : (chk o.f2).2.2 = 0) (h2 : 1 ≤ (chk o.f2).1 ∧ (chk o.f2).1 ≤ 256) (h3 : 0 ≤ o.f1 ∧ o.f1 + (chk o.f2).1 ≤ 1048576) : ownE o = 0 := by
 have ht : totOf o = o.f1 := by unfold totOf; rw [if_pos ⟨k, by omega, by omega⟩]
 unfold ownE checkE
 rw [ht, if_neg (show ¬ (o.f1 < 0 ∨ 1048576 < o.f1) by omega), if_neg (show ¬ (o.f0.f1 < 1 ∨ 4 < o.f0.f1) by omega), if_neg hb, if_neg (show ¬ extraB o = true by rw [he]; simp), if_pos k]
 unfold insE
 rw [if_pos h1, if_neg (show ¬ (chk o.f2).1 = 0 by omega), if_neg (show ¬ 256 < (chk o.f2).1 by omega), if_neg (show ¬ (o.f1 < 0 ∨ o.f1 < o.f1) by omega), if_neg (show ¬ 1048576 < o.f1 + (chk o.f2).1 by omega)]
theorem own_mk_cov {o : S41} (k : o.f0.f1 = 2 ∨ o.f0.f1 = 3) (hb : ¬ badID o) (he : extraB o = false) (h0 : 0 < o.f3.length) (h1 : (rngE o.f3).2 = 0) (h2 : lastHi o.f3 ≤ 1048576) : ownE o = 0 := by
 have ht : totOf o = 1048576 := by unfold totOf; rw [if_neg (show ¬ (o.f0.f1 = 1 ∧ 0 ≤ o.f1 ∧ o.f1 ≤ 1048576) by omega)]
 unfold ownE checkE
 rw [ht, if_neg (by omega), if_neg (show ¬ (o.f0.f1 < 1 ∨ 4 < o.f0.f1) by omega), if_neg hb, if_neg (show ¬ extraB o = true by rw [he]; simp), if_neg (show ¬ o.f0.f1 = 1 by omega), if_neg (show ¬ o.f0.f1 = 4 by omega)]
 unfold rgsE
 rw [if_neg (by omega), if_pos h1, if_neg (by omega)]
end Go.Proofs.YtloccjkcmlkifaaDoor
end

section
/- Runs: their own errors, on both sides; an element that is read. -/
namespace Go.Proofs.YtloccjkcmlkifaaDoor
open Go.RowKit Go.Proofs.YtloccjkcmlkifaaDoor.PAll Go.Proofs.YtloccjkcmlkifaaDoorW.PrintWords

def RunC (w : World) (v : Value) (l : List S41) : Prop := ∃ A c, v = .slice A l.length c ∧ l.length ≤ c ∧ k41.C w A l.length l
theorem RunC.below {w w' : World} {v : Value} {l : List S41} (h : RunC w v l) (hb : Below w.heap.size w w') : RunC w' v l := by
 obtain ⟨A, c, e, h1, h2⟩ := h
 exact ⟨A, c, e, h1, Kd.C_below h2 hb⟩
theorem elem_C {w : World} {A : Option Addr} {l : List S41} (h : k41.C w A l.length l) (i : Nat) (hi : i < l.length) :
 ∃ ad A5 c5, A = some ad ∧ (∀ W, Below w.heap.size w W → atL W (ad.add (i * 9)) 0 (opA (l.getD i z41) (.slice A5 (l.getD i z41).f3.length c5)).toList) ∧ OpC w (.slice A5 (l.getD i z41).f3.length c5) (l.getD i z41) := by
 obtain ⟨ad, c, e, _, hK, hc⟩ := Kd.C_get h z41 (i : Int) (by omega) (by omega)
 rw [Int.toNat_natCast] at hK hc
 obtain ⟨A5, c5, rfl, l5, g5⟩ := k41_open hK
 refine ⟨ad, A5, c5, e, fun W hb => atL_mk fun j v hj => ?_, opC_mk l5 g5⟩
 have := hc j v hj
 have h2 : W.cell? (ad.add (i * 9 + j)) = some v := pw_cell_below hb this
 have h3 : (ad.add (i * 9)).add (0 + j) = ad.add (i * 9 + j) := by
  by_cases hj0 : j = 0
  · subst hj0
    rfl
  · rw [add_field ad (i * 9) j (by omega)]
    unfold Addr.add
    rw [if_neg (by omega), Nat.zero_add]
 rw [h3]; exact h2
end Go.Proofs.YtloccjkcmlkifaaDoor
end

section
/- xform.Over: an operation carried over a run. -/
namespace Go.Proofs.YtloccjkcmlkifaaDoor
open Go.RowKit Go.Proofs.YtloccjkcmlkifaaDoor.PAll Go.Proofs.YtloccjkcmlkifaaDoorW.PrintWords

section
variable {P : Program} {ops : Array Oper} {rest : List Oper} {o : Oper} {a : Act} {Q : Exit → Act → World → Prop} {W : World}
theorem ev_ext (cs : Array Value) {N : Tmp} {ty : TypeId} {x : Operand} {d : TypeDesc} {ad : Addr} (hc : atL W ad 0 cs.toList)
 (h : wpList P ops Q rest (a.put (some N) (.agg cs)) W)
 (ho : o.op = .load ty x := by rfl) (hx : a.eval x = .pointer (some ad) := by rfl) (hd : o.dst = some N := by rfl)
 (hw : Region.wanted o (yielded ops a.tmps) = true := by first | exact wanted_plain rfl | (refine wanted_on rfl ?_; simp [yielded])) (hu : P.underlying ty = some d := by first | exact Tryd.underlying41 | exact Tryd.underlying100) (hdd : (match d with | .struct _ | .array _ _ => true | _ => false) = true := by rfl) (hi : (P.info? ty).map (·.size) = some cs.size := by kernel_rfl) : wpList P ops Q (o :: rest) a W := by
 have hr := run_load_wide (P := P) W ad ty cs.toList d hc hu hdd (by simpa using hi)
 refine ev_run (v := .agg cs) hw ?_ (by rw [hd]; exact h)
 unfold execOp
 simp only [ho, hx, Instr.loadAt, Instr.sureAddr, Sem.run_bind, Sem.run_pure, Result.andThen_ok, hr]
end

def overF (e : Bool) (s : S41 × Int) (x : S41) : S41 × Int := if s.2 = 0 then incE s.1 x e else s
structure OverAt (err : Int) (o : S41) (e : Bool) (run : List S41) (w : World) (g6 g3 : Nat) (k : Nat) (s : S41 × Int) (A : Option Addr) (c : Nat) (wr : World) : Prop where
 eq : s = (run.take k).foldl (overF e) (o, err)
 st : St w wr [(g6, 41, zA), (g3, 41, opA s.1 (.slice A s.1.f3.length c))] (fun W => True ∧ OpR W w.heap.size (.slice A s.1.f3.length c) s.1)
end Go.Proofs.YtloccjkcmlkifaaDoor
end

section
/- Two operations that are one are told equal: redraftref04.Equal, and what is made of it. -/
namespace Go.Proofs.YtloccjkcmlkifaaDoor
open Go.RowKit Go.Proofs.YtloccjkcmlkifaaDoor.PAll Go.Proofs.YtloccjkcmlkifaaDoorW.PrintWords Go.Proofs.YtloccjkcmlkifaaDoorW.PrintLast

def Yes (w : World) : Ending → World → Prop := fun e w' => e = .returned (.bool true) ∧ Below w.heap.size w w'
theorem num_any (e : Int) (w : World) : Calls Tryd.prog 23 #[.int .i64 e] w fun e' w' => e' = .returned (.int .i64 e) ∧ Below w.heap.size w w' := by
 go_enter Tryd.func23, Tryd.ntmps23
 go_wp2
 go_ret
 exact ⟨rfl, Below.refl _ _⟩
end Go.Proofs.YtloccjkcmlkifaaDoor
end

section
/- A script's step as a value; what the laws ask of two answers that are one. -/
namespace Go.Proofs.YtloccjkcmlkifaaDoor
open Go.RowKit Go.Proofs.YtloccjkcmlkifaaDoor.PAll Go.Proofs.YtloccjkcmlkifaaDoorW.PrintWords Go.Proofs.YtloccjkcmlkifaaDoorW.PrintLast

structure StepC (w : World) (va vb vr vo : Value) (s : S100) : Prop where
 a : OpC w va s.f1
 b : OpC w vb s.f2
 r : RunC w vr s.f3
 o : RunC w vo s.f4
theorem StepC.below {w w' : World} {va vb vr vo : Value} {s : S100} (h : StepC w va vb vr vo s) (hb : Below w.heap.size w w') : StepC w' va vb vr vo s := ⟨h.a.below hb, h.b.below hb, h.r.below hb, h.o.below hb⟩
section
variable {P : Program} {ops : Array Oper} {rest : List Oper} {o : Oper} {a a' : Act} {Q : Exit → Act → World → Prop} {w0 W w : World} {bs : List Bx} {F : World → Prop} {g : Nat} {t : TypeId} {cs : Array Value}
variable {md : Region.Mode} {S : World → Prop} {ds : List Nat} {fuel : Nat} {l : Array Bool} {oi : Oper} {N : Tmp}
end
theorem foot_S {α : Type} {d : Kd α} {e : Nat} {w : World} {base : Nat} {v : Value} {xs : List α} (h : Kd.S d e w base (fun _ => True) v xs) : Foot (fun W => Kd.S d e W base (fun _ => True) v xs) w (fun k => base ≤ k) := by
 obtain ⟨f, h⟩ := h
 exact fun W' hW => ⟨f, foot_R h W' hW⟩
theorem St.addS {α : Type} {d : Kd α} {e : Nat} {w0 w w' : World} {bs : List Bx} {F : World → Prop} {v : Value} {xs : List α} (S : St w0 w bs F) (hb : Below w.heap.size w w') (h : Kd.S d e w' w.heap.size (fun _ => True) v xs) : St w0 w' bs (fun W => F W ∧ Kd.S d e W w0.heap.size (fun _ => True) v xs) :=
 S.add hb fun W' hW => Kd.S_lower (foot_S h W' hW) S.below.size
def OwnRun (w : World) (base : Nat) (v : Value) (l : List S41) : Prop := Kd.S k41 41 w base (fun _ => True) v l
theorem OwnRun.C {w : World} {base : Nat} {v : Value} {l : List S41} (h : OwnRun w base v l) : RunC w v l := Kd.S_reads h
end Go.Proofs.YtloccjkcmlkifaaDoor
end
