/- A load of a wide record, as one step of a walk: its cells are told one by one. -/
import Derived.Test.YtloccjkcmlkifaaDoorWN
import Derived.Test.YtloccjkcmlkifaaDoorWMore
import Derived.WalkKit
import Derived.Deep.MidRow
namespace Go.Proofs.YtloccjkcmlkifaaDoor
open Go.RowKit

def atL (w : World) (ad : Addr) : Nat → List Value → Prop
  | _, [] => True
  | j, v :: r => w.cell? (ad.add j) = some v ∧ atL w ad (j + 1) r
theorem atL_get {w : World} {ad : Addr} : ∀ {cs : List Value} {o : Nat}, atL w ad o cs → ∀ j v, cs[j]? = some v → w.cell? (ad.add (o + j)) = some v
  | [], _, _, j, v, h => by simp at h
  | x :: r, o, ⟨h0, hr⟩, 0, v, h => by
    simp only [List.getElem?_cons_zero, Option.some.injEq] at h
    subst h; exact h0
  | x :: r, o, ⟨h0, hr⟩, j + 1, v, h => by
    simp only [List.getElem?_cons_succ] at h
    have := atL_get hr j v h
    rw [show o + 1 + j = o + (j + 1) by omega] at this
    exact this
theorem run_load_wide {P : Program} (w : World) (ad : Addr) (ty : TypeId) (cs : List Value) (d : TypeDesc) (hc : atL w ad 0 cs)
    (hu : P.underlying ty = some d) (hd : (match d with | .struct _ | .array _ _ => true | _ => false) = true) (hi : (P.info? ty).map (·.size) = some cs.length) :
    (loadVar ty ad).run P w = .ok (.agg cs.toArray) w := by
  have hl : (loadCells ad cs.length).run P w = .ok cs.toArray w :=
    run_loadCells_list (P := P) w ad cs (fun j v hv => by
      have := atL_get hc j v hv
      rw [Nat.zero_add] at this
      exact this)
  cases hq : P.info? ty with
  | none => simp [hq] at hi
  | some i =>
    have hs : i.size = cs.length := by simpa [hq] using hi
    have hagg : (isAgg ty).run P w = .ok true w := by
      unfold isAgg
      rw [Sem.run_bind, run_underlying hu w]
      cases d <;> simp_all
    simp [loadVar, Sem.run_bind, hagg, sizeOf, typeInfo, hq, hs, hl]
theorem load_event {P : Program} {ops : Array Oper} {rest : List Oper} {o : Oper} {a : Act} {w : World} {Q : Exit → Act → World → Prop} (hgd : o.guard = none) (ty : TypeId) (x : Operand) (ho : o.op = .load ty x)
    (ad : Addr) (hx : a.eval x = .pointer (some ad)) (cs : List Value) (d : TypeDesc) (hc : atL w ad 0 cs)
    (hu : P.underlying ty = some d) (hd : (match d with | .struct _ | .array _ _ => true | _ => false) = true) (hi : (P.info? ty).map (·.size) = some cs.length)
    (h : wpList P ops Q rest (a.put o.dst (.agg cs.toArray)) w) : wpList P ops Q (o :: rest) a w := by
  refine wpList_plain hgd fun _ hK => ?_
  unfold Oper.wp execOp
  simp only [ho, hx, Instr.loadAt, Instr.sureAddr, Sem.run_bind, Sem.run_pure, Result.andThen_ok, run_load_wide w ad ty cs d hc hu hd hi]
  exact hK _ _ h

theorem atL_mk {w : World} {ad : Addr} : ∀ {cs : List Value} {o : Nat}, (∀ j v, cs[j]? = some v → w.cell? (ad.add (o + j)) = some v) → atL w ad o cs
  | [], _, _ => trivial
  | x :: r, o, h => ⟨h 0 x rfl, atL_mk fun j v hj => by
      have := h (j + 1) v (by simpa using hj)
      rw [show o + 1 + j = o + (j + 1) by omega]
      exact this⟩
theorem atL_blk {w : World} {g : Nat} {t : TypeId} {cs : List Value} (h : w.heap[g]? = some (.cells cs.toArray t (0, 0))) : atL w ⟨g, 0, none⟩ 0 cs :=
  atL_mk fun j v hj => by
    have hadd : (⟨g, 0, none⟩ : Addr).add (0 + j) = ⟨g, j, none⟩ := by unfold Addr.add; split <;> simp_all
    rw [hadd, Go.Proofs.YtloccjkcmlkifaaDoorW.PrintWords.blk_cell h]
    simpa using hj
theorem blk_setCells {g : Nat} {t : TypeId} : ∀ (vs : List Value) (pre old : List Value) (W : World), W.heap[g]? = some (.cells (pre ++ old).toArray t (0, 0)) → old.length = vs.length →
    (W.setCells g pre.length vs).heap[g]? = some (.cells (pre ++ vs).toArray t (0, 0))
  | [], pre, old, W, h, hl => by
    obtain rfl : old = [] := by simpa using hl
    exact h
  | _ :: _, _, [], _, _, hl => by simp at hl
  | v :: r, pre, u :: q, W, h, hl => by
    have h1 := Go.Proofs.YtloccjkcmlkifaaDoorW.PrintWords.blk_put h pre.length v (cs' := ((pre ++ [v]) ++ q).toArray) (by simp)
    have := blk_setCells r (pre ++ [v]) q (W.setCell ⟨g, pre.length, none⟩ v) h1 (by simpa using hl)
    simpa [World.setCells] using this
theorem below_setCells {g : Nat} {w0 : World} : ∀ (vs : List Value) (o : Nat) (W : World), Below w0.heap.size w0 W → w0.heap.size ≤ g → Below w0.heap.size w0 (W.setCells g o vs)
  | [], _, _, h, _ => h
  | _ :: r, o, _, h, hg => below_setCells r (o + 1) _ (h.setCell hg _) hg
theorem store_wide {P : Program} {ops : Array Oper} {rest : List Oper} {o : Oper} {a : Act} {Q : Exit → Act → World → Prop} {W : World} (hgd : o.guard = none) {t : TypeId} {p : Tmp} {v : Operand} (ho : o.op = .store t (.tmp p) v) (hN : o.dst = none)
    {g : Nat} {c c' : Array Value} (hp : a.eval (.tmp p) = .pointer (some ⟨g, 0, none⟩)) (hv : a.eval v = .agg c') (hb : W.heap[g]? = some (.cells c t (0, 0))) (hs : c.size = c'.size)
    (hi : (P.info? t).map (·.size) = some c'.size) (h1 : c'.toList.all (·.oneCell') = true)
    (h : ∀ w', w'.heap[g]? = some (.cells c' t (0, 0)) → (∀ w0 : World, Below w0.heap.size w0 W → w0.heap.size ≤ g → Below w0.heap.size w0 w') → wpList P ops Q rest a w') : wpList P ops Q (o :: rest) a W := by
  have hrun : (execOp a.eval o).run P W = .ok .skip (W.setCells g 0 c'.toList) := by
    unfold execOp
    simp only [ho, hp, hv, Sem.run_bind, Sem.run_pure, Result.andThen_ok, run_storeAt_mid W g 0 t c' (fun j hj => ⟨by rw [Go.Proofs.YtloccjkcmlkifaaDoorW.PrintWords.blk_cell hb]; simp; omega, Go.Proofs.YtloccjkcmlkifaaDoorW.PrintWords.blk_frozen hb _⟩) hi (by rw [← Array.all_toList]; exact h1)]
  refine Go.Proofs.YtloccjkcmlkifaaDoorW.PrintWords.store_event (t := t) (p := p) (v := v) hgd ho hN hrun fun w' hw => h w' ?_ (fun w0 hB hg => ?_)
  · rw [hw]
    have := blk_setCells (g := g) (t := t) c'.toList [] c.toList W (by simpa using hb) (by simpa using hs)
    simpa using this
  · rw [hw]
    exact below_setCells _ _ _ hB hg
end Go.Proofs.YtloccjkcmlkifaaDoor

