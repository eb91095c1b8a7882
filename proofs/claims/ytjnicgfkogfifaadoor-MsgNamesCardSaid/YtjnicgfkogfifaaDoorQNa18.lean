/- MsgNames_card, part 18. -/
import Derived.WalkKit
import Derived.ProofKit
import Derived.OpenShut
import Derived.SizedLaws
import Derived.Deep.Slices
import Derived.Deep.DeepHandedRow
import Derived.Lib.LaidTab
import Derived.Test.YtjnicgfkogfifaaDoorQNa2
import Derived.Test.YtjnicgfkogfifaaDoorQNa9
import Derived.Test.YtjnicgfkogfifaaDoorQNa1
import Derived.Test.YtjnicgfkogfifaaDoorQNa8
import Derived.Test.YtjnicgfkogfifaaDoorQNa10
import Derived.Test.YtjnicgfkogfifaaDoorQNa7
import Derived.Deep.MidRow
import Derived.Test.YtjnicgfkogfifaaDoorProg
import Derived.Test.YtjnicgfkogfifaaDoorQNa4
import Derived.Deep.Onto
import Derived.Laws.BitsAllLaws
import Derived.WalkLawsBesides

section
/- Reading what comes in: 'Red': the cells cs read as a value of type t in memory w, each slice and string of it within the form's reach. It is opened type by type; no datum is left to carry. For any program. -/
namespace Go.Proofs.YtjnicgfkogfifaaDoor
open Go.ChangeShapes Go.WideShapes Go.ChangeAt Go.RowKit

def Red {H : Type} (enc : TypeId × Value → H) (P : Program) (w : World) (t : TypeId) (cs : List Value) : Prop :=
 ∃ (fuel : Nat) (d : DataW H) (ps : List MemPlace), DataW.trod enc P w 0 (fun _ => true) true fuel t cs = some (d, ps) ∧ (d.weights P t).all (· ≤ reachBytes) = true

section
variable {H : Type} {enc : TypeId × Value → H} {P : Program} {w : World} {t : TypeId} {cs : List Value}

theorem red_all : ∀ (ts : List TypeId) (vs : List Value) (ds : List (DataW H)) (ps : List MemPlace), DataW.TrodAll enc P w 0 (fun _ => true) true ts vs ds ps →
 (DataW.weightsEach P ts ds).all (· ≤ reachBytes) = true → vs.length = ts.length ∧ ∀ (j : Nat) t v, ts[j]? = some t → vs[j]? = some v → Red enc P w t v.cells.toList := by
 intro ts
 induction ts with
 | nil =>
  intro vs ds ps h _
  cases vs <;> cases ds <;> simp_all [DataW.TrodAll]
 | cons t ts ih =>
  intro vs ds ps h hw
  cases vs with
  | nil => cases ds <;> simp [DataW.TrodAll] at h
  | cons v vs =>
   cases ds with
   | nil => simp [DataW.TrodAll] at h
   | cons d ds =>
    obtain ⟨p, q, ⟨fuel, h1⟩, h2, rfl⟩ := h
    simp only [DataW.weightsEach, List.all_append, Bool.and_eq_true] at hw
    obtain ⟨hl, hr⟩ := ih vs ds q h2 hw.2
    refine ⟨by simp [hl], fun j t' v' ht' hv' => ?_⟩
    cases j with
    | zero =>
     simp at ht' hv'
     subst ht' hv'
     exact ⟨fuel, d, p, h1, hw.1⟩
    | succ j =>
     simp at ht' hv'
     exact hr j t' v' ht' hv'

end
end Go.Proofs.YtjnicgfkogfifaaDoor
end

section
/- The step from a walk ("the call returns true and leaves all old memory alone") to the row of a law, for any program and any law whose row lists no variable. -/
namespace Go.Proofs.YtjnicgfkogfifaaDoor
open Go.ChangeShapes Go.WideShapes Go.ChangeAt Go.RowKit

def Lawful (W : World) (e : Ending) (W' : World) : Prop := e = .returned (.bool true) ∧ Below W.heap.size W W'

theorem trodAll_stays {H : Type} {enc : TypeId × Value → H} {P : Program} (hl : laidOutB P = true) {W W' : World} (hb : Below W.heap.size W W') :
 ∀ (ts : List TypeId) (vs : List Value) (ds : List (DataW H)) (ps : List MemPlace), (∀ t ∈ ts, P.readableRec t = true ∧ t < P.types.size) →
  DataW.TrodAll enc P W 0 (fun _ => true) true ts vs ds ps → (∀ x ∈ ps, x.block < W.heap.size) →
  DataW.TrodAll enc P W' 0 (fun b => decide (b < W.heap.size)) true ts vs ds ps := by
 intro ts
 induction ts with
 | nil =>
  intro vs ds ps _ h _
  cases vs <;> cases ds <;> simp_all [DataW.TrodAll]
 | cons t ts ih =>
  intro vs ds ps ht h hp
  cases vs with
  | nil => cases ds <;> simp [DataW.TrodAll] at h
  | cons v vs =>
   cases ds with
   | nil => simp [DataW.TrodAll] at h
   | cons d ds =>
    obtain ⟨p, q, h1, h2, rfl⟩ := h
    obtain ⟨hr, hz⟩ := ht t (by simp)
    exact ⟨p, q, Below.trod hl hr hz h1 hb (fun x hx => hp x (by simp [hx])), ih vs ds q (fun t' h' => ht t' (by simp [h'])) h2 (fun x hx => hp x (by simp [hx])), rfl⟩

theorem trodAll_length {H : Type} {enc : TypeId × Value → H} {P : Program} {W : World} {b : Nat} {sp : Nat → Bool} {hd : Bool} :
 ∀ (ts : List TypeId) (vs : List Value) (ds : List (DataW H)) (ps : List MemPlace), DataW.TrodAll enc P W b sp hd ts vs ds ps → ds.length = ts.length := by
 intro ts
 induction ts with
 | nil => intro vs ds ps h; cases vs <;> cases ds <;> simp_all [DataW.TrodAll]
 | cons t ts ih =>
  intro vs ds ps h
  cases vs with
  | nil => cases ds <;> simp [DataW.TrodAll] at h
  | cons v vs =>
   cases ds with
   | nil => simp [DataW.TrodAll] at h
   | cons d ds =>
    obtain ⟨p, q, h1, h2, rfl⟩ := h
    simp [ih vs ds q h2]

theorem law_post {H : Type} {enc : TypeId × Value → H} {P : Program} {f : Func} {s : ChangeSpec} {apart : Bool} {tb : TypeId} (hvars : s.vars = []) (hl : laidOutB P = true)
 (hts : ∀ t ∈ f.params.toList, P.readableRec t = true ∧ t < P.types.size) (hr : f.resultTypes = #[tb]) (hub : P.underlying tb = some .bool)
 (hfn : ∀ ds : List (DataW H), ds.length = f.params.toList.length → s.fn H ds = { results := [.lit (.bool true)], args := ds })
 {W W' : World} {args : Array Value} {ds gs : List (DataW H)} {before : List MemPlace}
 (hW : DataW.Whole enc P f.params.toList s.vars apart W args.toList ds gs before) (hb : Below W.heap.size W W') :
 s.post enc P f apart true false false W args (.bool true) W' := by
 have hW' := hW
 obtain ⟨p, q, hA, hV, rfl, hfz, hnd⟩ := hW
 rw [hvars] at hV
 obtain ⟨rfl, rfl⟩ := trodVars_none hV
 have hlen := trodAll_length _ _ _ _ hA
 have hlt : ∀ x ∈ p, x.block < W.heap.size := fun x hx => hW'.lt x (by simp [hx])
 refine ⟨ds, [], p ++ [], [], p, [], hW', ?_, ?_, ?_, hb.frame _, fun h => by cases h⟩
 · rw [List.append_nil, hfn ds hlen, hr]
   exact trodAll_cons_mk (shut_bool hub _) trodAll_mk0
 · rw [List.append_nil, hfn ds hlen]
   exact trodAll_stays hl hb _ _ _ _ hts hA hlt
 · rw [List.append_nil, hfn ds hlen, hvars]
   rfl

end Go.Proofs.YtjnicgfkogfifaaDoor
end

section
/- The step from a walk to the row of a law whose row lists package-level variables ('laid'), for any program. -/
namespace Go.Proofs.YtjnicgfkogfifaaDoor
open Go.ChangeShapes Go.WideShapes Go.ChangeAt Go.RowKit

theorem law_lifted_laid {C : Checked} {os : Os} {f : FuncId} {fn : Func} {s : ChangeSpec} {tb : TypeId} {H : Type} {enc : TypeId × Value → H} {laid : List (String × DataW Unit)} {F : Stop.Interp} {up : OpenSpec}
 (hup : up.vars = s.vars ∧ up.bare.plain.varTypes C.prog = s.plain.varTypes C.prog ∧ ∀ W args v W', s.post enc C.prog fn false true false false W args v W' → (up.at F).post enc C.prog fn false true false false W args v W')
 (own : ownKnob C.prog.godebug = none) (started : os.Started) (noInit : C.prog.inits.idxOf? f = none) (hfn : C.prog.funcs[f]? = some fn)
 (witness : ∃ (w : World) (tape : Tape) (i : Input), w.os = os ∧ (w.forCall tape i).Shaped C.prog ∧ i.vars = [] ∧ Input.okWide C.prog (w.forCall tape i) .any w.heap.size f i ∧
  up.preRow enc C.prog fn [] false laid (w.forCall tape i).memory i.args ∧ ({} : Assume).holds C.prog (lone (Frame.enter C.prog f i.args .normal) [] (w.forCall tape i)))
 (hvars : s.vars = []) (hl : laidOutB C.prog = true) (hts' : (fn.params.toList.all fun t => C.prog.readableRec t && decide (t < C.prog.types.size)) = true) (hr : fn.resultTypes = #[tb]) (hub : C.prog.underlying tb = some .bool)
 (hsp : ∀ ds : List (DataW H), ds.length = fn.params.toList.length → s.fn H ds = { results := [.lit (.bool true)], args := ds })
 (walk : ∀ (W : World) (base : Nat) (args : Array Value), laidMetH C.prog laid W → args.size = fn.params.size →
  (∀ (j : Nat) t v, fn.params[j]? = some t → args[j]? = some v → Value.okWide C.prog W .any base t v) →
  (∀ (j : Nat) t v, fn.params[j]? = some t → args[j]? = some v → Red enc C.prog W t v.cells.toList) →
  (∀ ds : List (DataW H), ∀ p, DataW.TrodAll enc C.prog W 0 (fun _ => true) true fn.params.toList args.toList ds p → (∀ k, up.cond = some k → k H ds = true) → Calls C.prog f args W (Lawful W))) :
 ReturnsInHanded {} C os f .any (up.preRow enc C.prog fn [] false laid) ((up.at F).post enc C.prog fn false true false false) := by
 have hts : ∀ t ∈ fn.params.toList, C.prog.readableRec t = true ∧ t < C.prog.types.size := fun t ht => by simpa using List.all_eq_true.mp hts' t ht
 refine returnsInHanded_of_row own started noInit hfn witness ?_
 intro W base args ds gs before hval hW _ hcond hsz hL _ _
 rw [hup.1] at hW
 have hW' := hW
 obtain ⟨p, q, hA, hV, rfl, hfz, hnd⟩ := hW
 rw [hvars] at hV
 obtain ⟨rfl, rfl⟩ := trodVars_none hV
 have hvt : s.plain.varTypes C.prog = [] := by
  have : s.plain.vars = [] := hvars
  simp [DataSpec.varTypes, this]
 rw [hup.2.1, hvt] at hsz
 simp only [List.append_nil] at hsz hcond
 obtain ⟨hl1, hl2⟩ := red_all _ _ _ _ hA hsz
 refine (walk W base args hL (by simpa using hl1) hval (fun j t v ht hv => hl2 j t v (by simpa using ht) (by simpa using hv)) ds p hA hcond).mono fun e W' ⟨he, hb⟩ => ?_
 exact ⟨_, he, hup.2.2 _ _ _ _ (law_post hvars hl hts hr hub hsp hW' hb)⟩
end Go.Proofs.YtjnicgfkogfifaaDoor
end

section
/- Steps of a region that draws its order, in one word each (for printed texts written shorter by wip/tools/squeeze.py). -/
namespace Go.Proofs.YtjnicgfkogfifaaDoor
open Go.RowKit Go.Proofs.YtjnicgfkogfifaaDoorW.PrintWords Go.Proofs.YtjnicgfkogfifaaDoorW.PrintLast

section
variable {P : Program} {ops : Array Oper} {Q : Exit → Act → World → Prop} {md : Region.Mode} {S : World → Prop} {ds : List Nat} {fuel : Nat} {l : Array Bool} {a a' : Act} {w : World} {oi : Oper} {N : Tmp} {v : Value} {T : Bool × List (List Nat × List Nat)}
theorem puT_ (i : Nat) (hT : rtab md ops = T) (h : wpAnyLast P md ops Q S ds fuel (l.setIfInBounds i true) a' w)
 (hi : ops[i]? = some oi := by rfl) (hN : oi.dst = some N := by rfl) (hc : anyT T l.toList (l.setIfInBounds i true).toList i = true := by kernel_rfl)
 (hw : Region.wanted oi (yielded ops a.tmps) = true := by rfl)
 (hy : ∀ w', (execOp a.eval oi).run P w' = .ok (.value v) w' := by intro w'; go_simp; (try with_reducible rfl))
 (ha : a.put (some N) v = a' := by (simp only [Act.put, List.setIfInBounds_toArray, List.set_cons_zero, List.set_cons_succ, i64_w, i32_w]; rfl))
 (hQ : ∀ c a w, Q (.panic c) (a.put oi.dst v) w → Q (.panic c) a w := by exact fun _ _ _ h => h) : wpAnyLast P md ops Q S ds (fuel + 1) l a w :=
 pure_ (l.setIfInBounds i true) hi hN (any_of hT hc) hQ (.inl ⟨hw, hy⟩) ha h
end
theorem dz_ (i : Int) (h : decide (0 ≤ i) = true := by first | (with_reducible assumption) | assumption) : 0 ≤ i := of_decide_eq_true h
theorem dl_ (i j : Int) (h : decide (i < j) = true := by first | (with_reducible assumption) | assumption) : i < j := of_decide_eq_true h
theorem RW_ {α : Type} {d : Kd α} {e base : Nat} {ok : Nat → Prop} {w w1 : World} {v : Value} {xs : List α} (h : d.R e w base ok v xs) (hb : Below w.heap.size w w1 := by (with_reducible repeat (first | exact Below.refl _ _ | apply below_alloc | apply pw_below_drewN | apply below_drew))) : d.R e w1 base ok v xs := Kd.R_below h hb
section
variable {P : Program} {ops : Array Oper} {Q : Exit → Act → World → Prop} {a : Act} {o : Oper} {rest : List Oper} {W : World}
theorem bxE_ (N : Tmp) (t : TypeId) (cs : Array Value) (h : ∀ g, g = W.heap.size → ∀ w1, w1.heap[g]? = some (.cells cs t (0, 0)) → Below W.heap.size W w1 → wpList P ops Q rest (a.put o.dst (.pointer (some ⟨g, 0, none⟩))) w1)
 (hd : o.dst = some N := by rfl) (hgd : o.guard = none := by rfl)
 (hrun : (execOp a.eval o).run P W = .ok (.value (.pointer (some ⟨W.heap.size, 0, none⟩))) (W.alloc (.cells cs t (0, 0))) := by first | (go_simp; done) | (go_simp; rfl)) : wpList P ops Q (o :: rest) a W := box_event hgd hd hrun h
end
theorem CW_ {α : Type} {d : Kd α} {w w1 : World} {A : Option Addr} {n : Nat} {xs : List α} (h : d.C w A n xs) (hb : Below w.heap.size w w1 := by (with_reducible repeat (first | exact Below.refl _ _ | apply below_alloc | apply pw_below_drewN | apply below_drew))) : d.C w1 A n xs := Kd.C_below h hb
section
variable {P : Program} {ops : Array Oper} {Q : Exit → Act → World → Prop} {a : Act} {oi : Oper} {rest : List Oper} {w : World}
theorem goS_ (N : Tmp) (hd : oi.dst = some N) {f : FuncId} {fn : Func} {ops_ : Array Operand} {ts : Array TypeId} (hf : P.funcs[f]? = some fn) (args : Array Value)
 (h : Calls P f args w fun e w' => ∃ v, e = .returned v ∧ wpList P ops Q rest (a.put (some N) v) w')
 (hg : oi.guard = none := by rfl) (hname : (fn.name == "runtime.NumGoroutine") = false := by kernel_rfl) (hb : fn.body.isSome = true := by rfl)
 (hop : oi.op = .call { callee := .value (.func f), args := ops_, argTypes := ts } := by rfl)
 (hargs : ops_.map a.eval = args := by (try simp only [List.map_toArray, List.map_cons, List.map_nil]); first | done | rfl | (simp only [List.length_drop, List.length_take]; rfl)) : wpList P ops Q (oi :: rest) a w :=
 goesL_ (some N) hd hg hf hname hb args hop hargs h
end
theorem ok_ {p : Prop} (h : p := by first | rfl | (simp; done) | (simp [*]; done)) : p := h
theorem rs_ {p : Prop} (h : p := by first | rfl | (simp [*] <;> rfl)) : p := h
theorem nl_ {p : Prop} (h : p := by first | exact Kd.R_nil _ _ _ _ _ | exact Kd.N_nil _ _ _ _ _ | exact Kd.V_nil _ _ _ _ _ | exact Kd.Q_nil _ _ _ _ _ | exact Kd.S_nil _ _ _ _ _) : p := h
theorem lk_ {q p : Prop} (h : Aside0 q) (h2 : q → p := by intro _; first | omega | exact Nat.le_refl _) : p := h2 h.out
theorem lo_ {p : Prop} (h : p := by first | omega | exact Nat.le_refl _) : p := h
theorem ifE_ {α : Type} {a b : Int} [Decidable (a = b)] {x y r : α} (H : (if a = b then x else y) = r) : ((a == b) = true ∧ (a != b) = false ∧ x = r) ∨ ((a == b) = false ∧ (a != b) = true ∧ y = r) := by
 by_cases c : a = b
 · rw [if_pos c] at H; exact .inl ⟨beq_iff_eq.mpr c, bne_eq_false_iff_eq.mpr c, H⟩
 · rw [if_neg c] at H; exact .inr ⟨beq_eq_false_iff_ne.mpr c, bne_iff_ne.mpr c, H⟩
theorem ifL_ {α : Type} {a b : List UInt8} [Decidable (a = b)] {x y r : α} (H : (if a = b then x else y) = r) : ((a == b) = true ∧ (a != b) = false ∧ x = r) ∨ ((a == b) = false ∧ (a != b) = true ∧ y = r) := by
 by_cases c : a = b
 · rw [if_pos c] at H; exact .inl ⟨beq_iff_eq.mpr c, bne_eq_false_iff_eq.mpr c, H⟩
 · rw [if_neg c] at H; exact .inr ⟨beq_eq_false_iff_ne.mpr c, bne_iff_ne.mpr c, H⟩
theorem ifB_ {α : Type} {a : Bool} [Decidable (a = true)] {x y r : α} (H : (if a = true then x else y) = r) : (a = true ∧ x = r) ∨ (a = false ∧ y = r) := by
 by_cases c : a = true
 · rw [if_pos c] at H; exact .inl ⟨c, H⟩
 · rw [if_neg c] at H; exact .inr ⟨by simpa using c, H⟩
theorem ifD_ {α : Type} {c : Prop} [Decidable c] {x y r : α} (H : (if c then x else y) = r) : (decide c = true ∧ x = r) ∨ (decide c = false ∧ y = r) := by
 by_cases h : c
 · rw [if_pos h] at H; exact .inl ⟨decide_eq_true h, H⟩
 · rw [if_neg h] at H; exact .inr ⟨decide_eq_false h, H⟩
theorem ifGt_ {α : Type} {a b : Int} [Decidable (a > b)] {x y r : α} (H : (if a > b then x else y) = r) : (decide (b < a) = true ∧ x = r) ∨ (decide (b < a) = false ∧ y = r) := ifD_ (c := b < a) H
theorem ifGe_ {α : Type} {a b : Int} [Decidable (a ≥ b)] {x y r : α} (H : (if a ≥ b then x else y) = r) : (decide (b ≤ a) = true ∧ x = r) ∨ (decide (b ≤ a) = false ∧ y = r) := ifD_ (c := b ≤ a) H
theorem ifG_ {α : Type} {n : Nat} [Decidable ((n : Int) > 0)] {x y r : α} (H : (if (n : Int) > 0 then x else y) = r) : (decide (0 < (n : Int)) = true ∧ decide (0 < n) = true ∧ x = r) ∨ (decide (0 < (n : Int)) = false ∧ decide (0 < n) = false ∧ y = r) := by
 by_cases c : (n : Int) > 0
 · rw [if_pos c] at H; exact .inl ⟨decide_eq_true c, decide_eq_true (by omega), H⟩
 · rw [if_neg c] at H; exact .inr ⟨decide_eq_false c, decide_eq_false (by omega), H⟩
end Go.Proofs.YtjnicgfkogfifaaDoor
end

section
/- Small laws by which printed proofs are written shorter. -/
namespace Go.Proofs.YtjnicgfkogfifaaDoorW.PrintWords
open Go.RowKit
theorem belW_ {n : Nat} {w0 w1 w2 : World} (h : Aside0 (Below n w0 w1)) (hx : Below n w0 w1 → Below n w0 w2 := by intro hb_; repeat (first | (with_reducible first | exact hb_ | apply below_alloc | apply pw_below_drewN | apply below_drew1 | refine below_set ?_ (Aside0.out ‹_›)) | exact hb_)) : Below n w0 w2 := hx h.out
theorem blkW_ {w1 w2 : World} {g : Nat} {o : Obj} (h : Aside0 (w1.heap[g]? = some o)) (hx : w1.heap[g]? = some o → w2.heap[g]? = some o := by intro hb_; (with_reducible repeat (first | refine blk_drewN ?_ _ | refine blk_drew ?_ | refine blk_alloc ?_ _)); exact hb_) : w2.heap[g]? = some o := hx h.out
theorem blkB_ {w1 w2 w3 : World} {g : Nat} {o : Obj} (h : Aside0 (w1.heap[g]? = some o)) (hb : Below w2.heap.size w2 w3) (hx : w1.heap[g]? = some o → w2.heap[g]? = some o := by intro hb_; (with_reducible repeat (first | refine blk_drewN ?_ _ | refine blk_drew ?_ | refine blk_alloc ?_ _)); exact hb_) : Aside0 (w3.heap[g]? = some o) := ⟨blk_below (hx h.out) hb⟩
theorem belB_ {w w1 w2 w3 : World} (h : Aside0 (Below w.heap.size w w1)) (hb : Below w2.heap.size w2 w3) (hx : Below w.heap.size w w1 → Below w.heap.size w w2 := by intro hb_; repeat (first | (with_reducible first | exact hb_ | apply below_alloc | apply pw_below_drewN | apply below_drew1 | refine below_set ?_ (Aside0.out ‹_›)) | exact hb_)) : Aside0 (Below w.heap.size w w3) := ⟨below_step (hx h.out) hb⟩
theorem gee_ {g : Nat} {w w1 w2 : World} (hg : g = w2.heap.size) (h : Aside0 (Below w.heap.size w w1)) (hx : Below w.heap.size w w1 → Below w.heap.size w w2 := by intro hb_; repeat (first | (with_reducible first | exact hb_ | apply below_alloc | apply pw_below_drewN | apply below_drew1 | refine below_set ?_ (Aside0.out ‹_›)) | exact hb_)) : Aside0 (w.heap.size ≤ g) := ⟨by rw [hg]; exact below_size (hx h.out)⟩
theorem neL_ {g gb : Nat} {w1 w2 : World} {o : Obj} (hg : gb = w2.heap.size) (h : Aside0 (w1.heap[g]? = some o)) (hx : w1.heap[g]? = some o → w2.heap[g]? = some o := by intro hb_; (with_reducible repeat (first | refine blk_drewN ?_ _ | refine blk_drew ?_ | refine blk_alloc ?_ _)); exact hb_) : Aside0 (g ≠ gb) := ⟨by rw [hg]; exact Nat.ne_of_lt (blk_lt (hx h.out))⟩
theorem neR_ {g gb : Nat} {w1 w2 : World} {o : Obj} (hg : gb = w2.heap.size) (h : Aside0 (w1.heap[g]? = some o)) (hx : w1.heap[g]? = some o → w2.heap[g]? = some o := by intro hb_; (with_reducible repeat (first | refine blk_drewN ?_ _ | refine blk_drew ?_ | refine blk_alloc ?_ _)); exact hb_) : Aside0 (gb ≠ g) := ⟨by rw [hg]; exact Nat.ne_of_gt (blk_lt (hx h.out))⟩
end Go.Proofs.YtjnicgfkogfifaaDoorW.PrintWords
end

section
/- A load of a wide record, as one step of a walk: its cells are told one by one. -/
namespace Go.Proofs.YtjnicgfkogfifaaDoor
open Go.RowKit

def atL (w : World) (ad : Addr) : Nat → List Value → Prop
 | _, [] => True
 | j, v :: r => w.cell? (ad.add j) = some v ∧ atL w ad (j + 1) r
theorem atL_get {w : World} {ad : Addr} : ∀ {cs : List Value} {o : Nat}, atL w ad o cs → ∀ j v, cs[j]? = some v → w.cell? (ad.add (o + j)) = some v
 | [], _, _, j, v, h => by simp at h
 | x :: r, o, ⟨h0, hr⟩, 0, v, h => by
  simp only [List.getElem?_cons_zero, Option.some.injEq] at h
  subst h; exact h0
 | x :: r, o, ⟨h0, hr⟩, j + 1, v, h => by
  simp only [List.getElem?_cons_succ] at h
  have := atL_get hr j v h
  rw [show o + 1 + j = o + (j + 1) by omega] at this
  exact this
theorem run_load_wide {P : Program} (w : World) (ad : Addr) (ty : TypeId) (cs : List Value) (d : TypeDesc) (hc : atL w ad 0 cs)
 (hu : P.underlying ty = some d) (hd : (match d with | .struct _ | .array _ _ => true | _ => false) = true) (hi : (P.info? ty).map (·.size) = some cs.length) :
 (loadVar ty ad).run P w = .ok (.agg cs.toArray) w := by
 have hl : (loadCells ad cs.length).run P w = .ok cs.toArray w :=
  run_loadCells_list (P := P) w ad cs (fun j v hv => by
   have := atL_get hc j v hv
   rw [Nat.zero_add] at this
   exact this)
 cases hq : P.info? ty with
 | none => simp [hq] at hi
 | some i =>
  have hs : i.size = cs.length := by simpa [hq] using hi
  have hagg : (isAgg ty).run P w = .ok true w := by
   unfold isAgg
   rw [Sem.run_bind, run_underlying hu w]
   cases d <;> simp_all
  simp [loadVar, Sem.run_bind, hagg, sizeOf, typeInfo, hq, hs, hl]
theorem atL_mk {w : World} {ad : Addr} : ∀ {cs : List Value} {o : Nat}, (∀ j v, cs[j]? = some v → w.cell? (ad.add (o + j)) = some v) → atL w ad o cs
 | [], _, _ => trivial
 | x :: r, o, h => ⟨h 0 x rfl, atL_mk fun j v hj => by
  have := h (j + 1) v (by simpa using hj)
  rw [show o + 1 + j = o + (j + 1) by omega]
  exact this⟩
theorem atL_blk {w : World} {g : Nat} {t : TypeId} {cs : List Value} (h : w.heap[g]? = some (.cells cs.toArray t (0, 0))) : atL w ⟨g, 0, none⟩ 0 cs :=
 atL_mk fun j v hj => by
  have hadd : (⟨g, 0, none⟩ : Addr).add (0 + j) = ⟨g, j, none⟩ := by unfold Addr.add; split <;> simp_all
  rw [hadd, Go.Proofs.YtjnicgfkogfifaaDoorW.PrintWords.blk_cell h]
  simpa using hj
theorem blk_setCells {g : Nat} {t : TypeId} : ∀ (vs : List Value) (pre old : List Value) (W : World), W.heap[g]? = some (.cells (pre ++ old).toArray t (0, 0)) → old.length = vs.length →
 (W.setCells g pre.length vs).heap[g]? = some (.cells (pre ++ vs).toArray t (0, 0))
 | [], pre, old, W, h, hl => by
  obtain rfl : old = [] := by simpa using hl
  exact h
 | _ :: _, _, [], _, _, hl => by simp at hl
 | v :: r, pre, u :: q, W, h, hl => by
  have h1 := Go.Proofs.YtjnicgfkogfifaaDoorW.PrintWords.blk_put h pre.length v (cs' := ((pre ++ [v]) ++ q).toArray) (by simp)
  have := blk_setCells r (pre ++ [v]) q (W.setCell ⟨g, pre.length, none⟩ v) h1 (by simpa using hl)
  simpa [World.setCells] using this
theorem below_setCells {g : Nat} {w0 : World} : ∀ (vs : List Value) (o : Nat) (W : World), Below w0.heap.size w0 W → w0.heap.size ≤ g → Below w0.heap.size w0 (W.setCells g o vs)
 | [], _, _, h, _ => h
 | _ :: r, o, _, h, hg => below_setCells r (o + 1) _ (h.setCell hg _) hg
end Go.Proofs.YtjnicgfkogfifaaDoor
end

section
/- The state of a walk as one fact: what is own and written (boxes), what else is known, and that nothing elder has changed. -/
namespace Go.Proofs.YtjnicgfkogfifaaDoor
open Go.RowKit Go.Proofs.YtjnicgfkogfifaaDoorW.PrintWords

abbrev Bx := Nat × TypeId × Array Value
structure St (w0 w : World) (bs : List Bx) (F : World → Prop) : Prop where
 below : Below w0.heap.size w0 w
 box : ∀ b ∈ bs, w.heap[b.1]? = some (.cells b.2.2 b.2.1 (0, 0)) ∧ w0.heap.size ≤ b.1
 nd : (bs.map (·.1)).Nodup
 foot : Foot F w (fun k => k ∉ bs.map (·.1))
namespace St
variable {w0 w w' : World} {bs bs' : List Bx} {F F' F2 : World → Prop} {g : Nat} {t : TypeId} {cs cs' : Array Value}
theorem now (S : St w0 w bs F) : F w := S.foot.now
theorem init (w : World) (h : Foot F w (fun _ => True)) : St w w [] F := ⟨Below.refl _ _, by simp, by simp, h.mono (by simp)⟩
theorem weak (S : St w0 w bs F) (h : ∀ W, F W → F' W) : St w0 w bs F' := ⟨S.below, S.box, S.nd, S.foot.imp h⟩
theorem lt (S : St w0 w bs F) : ∀ b ∈ bs, b.1 < w.heap.size := fun b hb => blk_lt (S.box b hb).1
theorem step (S : St w0 w bs F) (hb : Below w.heap.size w w') : St w0 w' bs F :=
 ⟨below_then S.below S.below.size hb, fun b hm => ⟨blk_below (S.box b hm).1 hb, (S.box b hm).2⟩, S.nd, S.foot.step fun k _ hlt => hb.block k hlt⟩
theorem drewN (S : St w0 w bs F) (n : Nat) : St w0 (w.drewN n) bs F := S.step (pw_below_drewN (Below.refl _ _) n)
theorem drew (S : St w0 w bs F) : St w0 w.drew bs F := S.step (below_drew (Below.refl _ _))
theorem add (S : St w0 w bs F) (hb : Below w.heap.size w w') (h2 : Foot F2 w' (fun k => w.heap.size ≤ k)) : St w0 w' bs (fun W => F W ∧ F2 W) :=
 have S' := S.step hb
 ⟨S'.below, S'.box, S'.nd, fun W' hW => ⟨S'.foot W' hW, (h2.mono (fun k hk hm => by
  obtain ⟨b, hb', rfl⟩ := List.mem_map.1 hm
  exact absurd (S.lt b hb') (by omega)) : Foot F2 w' (fun k => k ∉ bs.map (·.1))) W' hW⟩⟩
theorem push (S : St w0 w bs F) (hb : Below w.heap.size w w') (hn : w'.heap[g]? = some (.cells cs t (0, 0))) (hg : g = w.heap.size) : St w0 w' ((g, t, cs) :: bs) F :=
 have S' := S.step hb
 ⟨S'.below, fun b hm => by
  rcases List.mem_cons.1 hm with rfl | hm
  · exact ⟨hn, by rw [hg]; exact S.below.size⟩
  · exact S'.box b hm, by
  rw [List.map_cons, List.nodup_cons]
  refine ⟨fun hm => ?_, S.nd⟩
  obtain ⟨b, hb', e⟩ := List.mem_map.1 hm
  have := S.lt b hb'
  have e' : b.1 = g := e
  omega, (S.foot.old hb).mono fun k hk hm => by
   rcases List.mem_cons.1 hm with h | h
   · have e' : k = g := h
     have := hk.2
     omega
   · exact hk.1 h⟩
theorem at_ (S : St w0 w bs F) (i : Nat) (e : bs[i]? = some (g, t, cs)) : w.heap[g]? = some (.cells cs t (0, 0)) := (S.box _ (List.mem_of_getElem? e)).1
theorem ge (S : St w0 w bs F) (i : Nat) (e : bs[i]? = some (g, t, cs)) : w0.heap.size ≤ g := (S.box _ (List.mem_of_getElem? e)).2
theorem drop (S : St w0 w bs F) (h : bs'.Sublist bs) : St w0 w bs' F :=
 ⟨S.below, fun b hm => S.box b (h.subset hm), (h.map _).nodup S.nd, S.foot.mono fun _ hk hm => hk ((h.map _).subset hm)⟩
theorem keptE (S : St w0 w bs F) (hb : Below w0.heap.size w0 w') (hk : ∀ k, k < w.heap.size → k ∈ bs.map (·.1) ∨ k < w0.heap.size → w'.heap[k]? = w.heap[k]?) (hF : Foot F2 w' (fun k => k ∉ bs.map (·.1))) : St w0 w' bs F2 :=
 ⟨hb, fun b hm => ⟨(hk _ (S.lt b hm) (.inl (List.mem_map.2 ⟨b, hm, rfl⟩))).trans (S.box b hm).1, (S.box b hm).2⟩, S.nd, hF⟩
theorem map_set (i : Nat) (e : bs[i]? = some (g, t, cs)) : (bs.set i (g, t, cs')).map (·.1) = bs.map (·.1) := by
 rw [List.map_set]
 have : (bs.map (·.1))[i]? = some g := by rw [List.getElem?_map, e]; rfl
 obtain ⟨hi, he⟩ := List.getElem?_eq_some_iff.1 this
 show (bs.map (·.1)).set i g = _
 rw [← he]; exact List.set_getElem_self hi
theorem put (S : St w0 w bs F) (i : Nat) (e : bs[i]? = some (g, t, cs)) (hb : Below w0.heap.size w0 w') (hg : w'.heap[g]? = some (.cells cs' t (0, 0))) (ho : ∀ k, k ≠ g → w'.heap[k]? = w.heap[k]?) : St w0 w' (bs.set i (g, t, cs')) F := by
 have hi : i < bs.length := (List.getElem?_eq_some_iff.1 e).1
 have hnd : ∀ j b, bs[j]? = some b → j ≠ i → b.1 ≠ g := fun j b hj hne hq => by
  have h1 : (bs.map (·.1))[j]? = some g := by rw [List.getElem?_map, hj]; simp [hq]
  have h2 : (bs.map (·.1))[i]? = some g := by rw [List.getElem?_map, e]; rfl
  have hjl : j < (bs.map (·.1)).length := (List.getElem?_eq_some_iff.1 h1).1
  have hil : i < (bs.map (·.1)).length := (List.getElem?_eq_some_iff.1 h2).1
  rcases Nat.lt_or_gt_of_ne hne with hlt | hlt
  · exact List.pairwise_iff_getElem.1 S.nd j i hjl hil hlt ((List.getElem?_eq_some_iff.1 h1).2.trans (List.getElem?_eq_some_iff.1 h2).2.symm)
  · exact List.pairwise_iff_getElem.1 S.nd i j hil hjl hlt ((List.getElem?_eq_some_iff.1 h2).2.trans (List.getElem?_eq_some_iff.1 h1).2.symm)
 refine ⟨hb, fun b hm => ?_, by rw [map_set i e]; exact S.nd, ?_⟩
 · obtain ⟨j, hj⟩ := List.mem_iff_getElem?.1 hm
   rw [List.getElem?_set] at hj
   by_cases hij : i = j
   rw [if_pos hij, if_pos hi] at hj
   · obtain rfl := Option.some.inj hj
     exact ⟨hg, S.ge _ e⟩
   · rw [if_neg hij] at hj
     have hm' := List.mem_of_getElem? hj
     exact ⟨(ho _ (hnd j b hj (fun h => hij h.symm))).trans (S.box b hm').1, (S.box b hm').2⟩
 · rw [map_set i e]
   exact S.foot.step fun k hk _ => ho k (fun h => hk (h ▸ (List.mem_map.2 ⟨_, List.mem_of_getElem? e, rfl⟩)))
end St
theorem below_setCell0 {w0 w : World} {g : Nat} (h : Below w0.heap.size w0 w) (hg : w0.heap.size ≤ g) (j : Nat) (v : Value) : Below w0.heap.size w0 (w.setCell ⟨g, j, none⟩ v) := h.setCell hg _
theorem setCells_far {g : Nat} : ∀ (vs : List Value) (o : Nat) (W : World) (k : Nat), k ≠ g → (W.setCells g o vs).heap[k]? = W.heap[k]?
 | [], _, _, _, _ => rfl
 | v :: r, o, W, k, hk => by
  show ((W.setCell ⟨g, o, none⟩ v).setCells g (o + 1) r).heap[k]? = _
  rw [setCells_far r (o + 1) _ k hk]
  exact Below.heap_setCell W ⟨g, o, none⟩ v k hk

theorem ix0 {b0 : Bx} {l : List Bx} : (b0 :: l)[0]? = some b0 := rfl
theorem ix1 {b0 b1 : Bx} {l : List Bx} : (b0 :: b1 :: l)[1]? = some b1 := rfl
theorem ix2 {b0 b1 b2 : Bx} {l : List Bx} : (b0 :: b1 :: b2 :: l)[2]? = some b2 := rfl
theorem ix3 {b0 b1 b2 b3 : Bx} {l : List Bx} : (b0 :: b1 :: b2 :: b3 :: l)[3]? = some b3 := rfl
theorem ix4 {b0 b1 b2 b3 b4 : Bx} {l : List Bx} : (b0 :: b1 :: b2 :: b3 :: b4 :: l)[4]? = some b4 := rfl
theorem ix5 {b0 b1 b2 b3 b4 b5 : Bx} {l : List Bx} : (b0 :: b1 :: b2 :: b3 :: b4 :: b5 :: l)[5]? = some b5 := rfl
theorem ix6 {b0 b1 b2 b3 b4 b5 b6 : Bx} {l : List Bx} : (b0 :: b1 :: b2 :: b3 :: b4 :: b5 :: b6 :: l)[6]? = some b6 := rfl
theorem ix7 {b0 b1 b2 b3 b4 b5 b6 b7 : Bx} {l : List Bx} : (b0 :: b1 :: b2 :: b3 :: b4 :: b5 :: b6 :: b7 :: l)[7]? = some b7 := rfl
section
variable {P : Program} {ops : Array Oper} {rest : List Oper} {o : Oper} {a : Act} {Q : Exit → Act → World → Prop} {w0 W : World} {bs : List Bx} {F : World → Prop} {g : Nat} {t : TypeId} {cs : Array Value}
theorem ev_run {W1 : World} {v : Value} (hw : Region.wanted o (yielded ops a.tmps) = true) (hrun : (execOp a.eval o).run P W = .ok (.value v) W1) (h : wpList P ops Q rest (a.put o.dst v) W1) : wpList P ops Q (o :: rest) a W := by
 refine wpList_step fun K hK => ?_
 rw [if_pos hw]
 unfold Oper.wp
 rw [hrun]
 exact hK _ _ h
theorem ev_skip {W1 : World} (hw : Region.wanted o (yielded ops a.tmps) = true) (hN : o.dst = none) (hrun : (execOp a.eval o).run P W = .ok .skip W1) (h : wpList P ops Q rest a W1) : wpList P ops Q (o :: rest) a W := by
 refine wpList_step fun K hK => ?_
 rw [if_pos hw]
 unfold Oper.wp
 rw [hrun]
 show K (a.put o.dst undef) W1
 rw [hN]
 exact hK _ _ h
theorem wanted_plain {y : Nat → Option Bool} (h : o.guard = none) : Region.wanted o y = true := by unfold Region.wanted; rw [h]
theorem wanted_on {y : Nat → Option Bool} {j : Nat} {b : Bool} (h : o.guard = some (j, b)) (hy : y j = some b) : Region.wanted o y = true := by unfold Region.wanted; rw [h]; simp [hy]
theorem gate_box {t : TypeId} {x : Operand} (_ho : o.op = .box t x) (h : wpList P ops Q (o :: rest) a W) : wpList P ops Q (o :: rest) a W := h
theorem gate_new {t : TypeId} (_ho : o.op = .alloc t) (h : wpList P ops Q (o :: rest) a W) : wpList P ops Q (o :: rest) a W := h
theorem gate_load {t : TypeId} {x : Operand} (_ho : o.op = .load t x) (h : wpList P ops Q (o :: rest) a W) : wpList P ops Q (o :: rest) a W := h
theorem gate_st {t : TypeId} {x y : Operand} (_ho : o.op = .store t x y) (h : wpList P ops Q (o :: rest) a W) : wpList P ops Q (o :: rest) a W := h
theorem ev_box (S : Aside0 (St w0 W bs F)) {t : TypeId} {x : Operand} {cs : Array Value} {N : Tmp}
 (h : ∀ g w', Aside0 (St w0 w' ((g, t, cs) :: bs) F) → wpList P ops Q rest (a.put (some N) (.pointer (some ⟨g, 0, none⟩))) w')
 (ho : o.op = .box t x := by rfl) (hx : a.eval x = .agg cs := by rfl) (hd : o.dst = some N := by rfl) (hw : Region.wanted o (yielded ops a.tmps) = true := by first | exact wanted_plain rfl | (refine wanted_on rfl ?_; simp [yielded]))
 (hrun : (execOp a.eval o).run P W = .ok (.value (.pointer (some ⟨W.heap.size, 0, none⟩))) (W.alloc (.cells cs t (0, 0))) := by first | (go_simp; done) | (go_simp; rfl)) : wpList P ops Q (o :: rest) a W :=
 have _ := ho; have _ := hx
 ev_run hw hrun (by rw [hd]; exact h _ _ ⟨S.out.push (below_alloc (Below.refl _ _) _) (blk_new W _) rfl⟩)
theorem ev_new (S : Aside0 (St w0 W bs F)) (t : TypeId) (cs : Array Value) {N : Tmp}
 (h : ∀ g w', Aside0 (St w0 w' ((g, t, cs) :: bs) F) → wpList P ops Q rest (a.put (some N) (.pointer (some ⟨g, 0, none⟩))) w')
 (ho : o.op = .alloc t := by rfl) (hd : o.dst = some N := by rfl) (hw : Region.wanted o (yielded ops a.tmps) = true := by first | exact wanted_plain rfl | (refine wanted_on rfl ?_; simp [yielded]))
 (hrun : (execOp a.eval o).run P W = .ok (.value (.pointer (some ⟨W.heap.size, 0, none⟩))) (W.alloc (.cells cs t (0, 0))) := by first | (go_simp; done) | (go_simp; rfl)) : wpList P ops Q (o :: rest) a W :=
 have _ := ho
 ev_run hw hrun (by rw [hd]; exact h _ _ ⟨S.out.push (below_alloc (Below.refl _ _) _) (blk_new W _) rfl⟩)
theorem ev_load (S : Aside0 (St w0 W bs F)) {i : Nat} {N : Tmp} {ty : TypeId} {x : Operand} {d : TypeDesc}
 (h : wpList P ops Q rest (a.put (some N) (.agg cs)) W)
 (ho : o.op = .load ty x := by rfl) (hx : a.eval x = .pointer (some ⟨g, 0, none⟩) := by rfl) (e : bs[i]? = some (g, t, cs) := by first | exact ix0 | exact ix1 | exact ix2 | exact ix3 | exact ix4 | exact ix5 | exact ix6 | exact ix7) (hd : o.dst = some N := by rfl)
 (hw : Region.wanted o (yielded ops a.tmps) = true := by first | exact wanted_plain rfl | (refine wanted_on rfl ?_; first | (simp [yielded]; done) | rfl)) (hu : P.underlying ty = some d := by first | exact Tryd.underlying35 | exact Tryd.underlying37 | exact Tryd.underlying93 | exact Tryd.underlying26 | exact Tryd.underlying86 | exact Tryd.underlying107 | exact Tryd.underlying50 | exact Tryd.underlying54 | exact Tryd.underlying29 | exact Tryd.underlying102) (hdd : (match d with | .struct _ | .array _ _ => true | _ => false) = true := by rfl) (hi : (P.info? ty).map (·.size) = some cs.size := by kernel_rfl) : wpList P ops Q (o :: rest) a W := by
 have hc : atL W ⟨g, 0, none⟩ 0 cs.toList := atL_blk (by simpa using S.out.at_ i e)
 have hr := run_load_wide (P := P) W ⟨g, 0, none⟩ ty cs.toList d hc hu hdd (by simpa using hi)
 refine ev_run (v := .agg cs) hw ?_ (by rw [hd]; exact h)
 unfold execOp
 simp only [ho, hx, Instr.loadAt, Instr.sureAddr, Sem.run_bind, Sem.run_pure, Result.andThen_ok, hr]
theorem ev_fld (S : Aside0 (St w0 W bs F)) {i : Nat} {N j : Nat} {ty : TypeId} {x : Operand} {v : Value}
 (h : wpList P ops Q rest (a.put (some N) v) W)
 (ho : o.op = .load ty x := by rfl) (hx : a.eval x = .pointer (some ⟨g, j, none⟩) := by rfl) (e : bs[i]? = some (g, t, cs) := by first | exact ix0 | exact ix1 | exact ix2 | exact ix3 | exact ix4 | exact ix5 | exact ix6 | exact ix7) (hd : o.dst = some N := by rfl)
 (hw : Region.wanted o (yielded ops a.tmps) = true := by first | exact wanted_plain rfl | (refine wanted_on rfl ?_; first | (simp [yielded]; done) | rfl))
 (hrun : (∀ k, W.cell? ⟨g, k, none⟩ = cs[k]?) → (execOp a.eval o).run P W = .ok (.value v) W := by intro hc_; first | (go_simp; done) | (go_simp; rfl)) : wpList P ops Q (o :: rest) a W :=
 have _ := ho; have _ := hx
 ev_run hw (hrun (blk_cell (S.out.at_ i e))) (by rw [hd]; exact h)
theorem ev_store (S : Aside0 (St w0 W bs F)) {i : Nat} {p : Tmp} {v : Operand} {c' : Array Value}
 (h : ∀ w', Aside0 (St w0 w' (bs.set i (g, t, c')) F) → wpList P ops Q rest a w')
 (ho : o.op = .store t (.tmp p) v := by rfl) (hp : a.eval (.tmp p) = .pointer (some ⟨g, 0, none⟩) := by rfl) (e : bs[i]? = some (g, t, cs) := by first | exact ix0 | exact ix1 | exact ix2 | exact ix3 | exact ix4 | exact ix5 | exact ix6 | exact ix7) (hv : a.eval v = .agg c' := by rfl) (hN : o.dst = none := by rfl)
 (hw : Region.wanted o (yielded ops a.tmps) = true := by first | exact wanted_plain rfl | (refine wanted_on rfl ?_; first | (simp [yielded]; done) | rfl)) (hs : cs.size = c'.size := by rfl) (hi : (P.info? t).map (·.size) = some c'.size := by kernel_rfl) (h1 : c'.toList.all (·.oneCell') = true := by rfl) : wpList P ops Q (o :: rest) a W := by
 have hb := S.out.at_ i e
 have hrun : (execOp a.eval o).run P W = .ok .skip (W.setCells g 0 c'.toList) := by
  unfold execOp
  simp only [ho, hp, hv, Sem.run_bind, Sem.run_pure, Result.andThen_ok, run_storeAt_mid W g 0 t c' (fun j hj => ⟨by rw [blk_cell hb]; simp; omega, blk_frozen hb _⟩) hi (by rw [← Array.all_toList]; exact h1)]
 refine ev_skip hw hN hrun (h _ ⟨S.out.put i e (below_setCells _ _ _ S.out.below (S.out.ge i e)) ?_ (fun k hk => setCells_far _ _ _ k hk)⟩)
 have := blk_setCells (g := g) (t := t) c'.toList [] cs.toList W (by simpa using hb) (by simpa using hs)
 simpa using this
theorem ev_set (S : Aside0 (St w0 W bs F)) {i : Nat} {j : Nat} {ty : TypeId} {p : Tmp} {v : Operand} {u : Value}
 (h : ∀ w', Aside0 (St w0 w' (bs.set i (g, t, cs.setIfInBounds j u)) F) → wpList P ops Q rest a w')
 (ho : o.op = .store ty (.tmp p) v := by rfl) (hp : a.eval (.tmp p) = .pointer (some ⟨g, j, none⟩) := by rfl) (e : bs[i]? = some (g, t, cs) := by first | exact ix0 | exact ix1 | exact ix2 | exact ix3 | exact ix4 | exact ix5 | exact ix6 | exact ix7) (hN : o.dst = none := by rfl)
 (hw : Region.wanted o (yielded ops a.tmps) = true := by first | exact wanted_plain rfl | (refine wanted_on rfl ?_; first | (simp [yielded]; done) | rfl))
 (hrun : (∀ k, W.cell? ⟨g, k, none⟩ = cs[k]?) → (∀ k, W.frozen? ⟨g, k, none⟩ = false) → (execOp a.eval o).run P W = .ok .skip (W.setCell ⟨g, j, none⟩ u) := by intro hc_ hf_; first | (go_simp; done) | (go_simp; rfl)) : wpList P ops Q (o :: rest) a W := by
 have hb := S.out.at_ i e
 have _ := ho; have _ := hp
 refine ev_skip hw hN (hrun (blk_cell hb) (blk_frozen hb)) (h _ ⟨S.out.put i e (below_setCell0 S.out.below (S.out.ge i e) _ _) (blk_put hb j u rfl) (fun k hk => Below.heap_setCell W ⟨g, j, none⟩ u k hk)⟩)
end
theorem foot_R {α : Type} {d : Kd α} {e : Nat} {w : World} {base : Nat} {v : Value} {xs : List α} (h : d.R e w base (fun _ => True) v xs) : Foot (fun W => d.R e W base (fun _ => True) v xs) w (fun k => base ≤ k) := fun _ hW =>
 Kd.R_mono (Kd.R_move (Kd.R_bound h) (fun k hk => hW k hk.2.1 hk.2.2.1)) (fun _ _ => trivial)
theorem St.addR {α : Type} {d : Kd α} {e : Nat} {w0 w w' : World} {bs : List Bx} {F : World → Prop} {v : Value} {xs : List α} (S : St w0 w bs F) (hb : Below w.heap.size w w') (h : d.R e w' w.heap.size (fun _ => True) v xs) : St w0 w' bs (fun W => F W ∧ d.R e W w0.heap.size (fun _ => True) v xs) :=
 S.add hb fun W' hW => Kd.R_lower (foot_R h W' hW) S.below.size
theorem St.keptR {α : Type} {d : Kd α} {e : Nat} {w0 w w' : World} {bs : List Bx} {F : World → Prop} {v : Value} {xs : List α} (S : St w0 w bs F) (hb : Below w0.heap.size w0 w') (hk : Kept w w' (fun k => k ∉ bs.map (·.1) ∧ w0.heap.size ≤ k))
 (h : d.R e w' w0.heap.size (fun k => (k ∉ bs.map (·.1) ∧ w0.heap.size ≤ k) ∨ w.heap.size ≤ k) v xs) : St w0 w' bs (fun W => True ∧ d.R e W w0.heap.size (fun _ => True) v xs) :=
 S.keptE hb (fun k hlt hk' => hk.2 k hlt (fun hq => by
  rcases hk' with h' | h'
  · exact hq.1 h'
  · have := hq.2; omega)) (fun W' hW => ⟨trivial, Kd.R_mono (Kd.R_move (Kd.R_bound h) (fun k hk' => hW k (by
  rcases hk'.1 with h' | h'
  · exact h'.1
  · intro hm
    obtain ⟨b, hb', rfl⟩ := List.mem_map.1 hm
    have := S.lt b hb'
    omega) hk'.2.2.1)) (fun _ _ => trivial)⟩)
theorem St.notBox {α : Type} {d : Kd α} {e : Nat} {w0 w : World} {bs : List Bx} {F : World → Prop} {v : Value} {xs : List α} (S : St w0 w bs F) (h : d.R e w w0.heap.size (fun _ => True) v xs) (hE : ∀ b ∈ bs, b.2.1 ∉ e :: d.E) :
 d.R e w w0.heap.size (fun k => k ∉ bs.map (·.1) ∧ w0.heap.size ≤ k) v xs :=
 Kd.R_mono (Kd.R_bound h) (fun k hk => ⟨fun hm => by
  obtain ⟨b, hb', rfl⟩ := List.mem_map.1 hm
  obtain ⟨q, hq, cells, hc⟩ := hk.2.2.2
  rw [(S.box b hb').1] at hc
  injection hc with hc
  injection hc with _ hc
  exact hE b hb' (hc ▸ hq), hk.2.1⟩)
theorem Foot.and {P Q : World → Prop} {W : World} {ok : Nat → Prop} (h1 : Foot P W ok) (h2 : Foot Q W ok) : Foot (fun W => P W ∧ Q W) W ok := fun W' hW => ⟨h1 W' hW, h2 W' hW⟩
end Go.Proofs.YtjnicgfkogfifaaDoor
end

section
/- A region that draws its order, walked over the state of a walk: what is pure or read from boxes is taken first. -/
namespace Go.Proofs.YtjnicgfkogfifaaDoor
open Go.RowKit Go.Proofs.YtjnicgfkogfifaaDoorW.PrintWords Go.Proofs.YtjnicgfkogfifaaDoorW.PrintLast

section
variable {P : Program} {ops : Array Oper} {Q : Exit → Act → World → Prop} {md : Region.Mode} {S : World → Prop} {ds : List Nat} {fuel : Nat} {l : Array Bool} {a a' : Act} {w w0 : World} {oi : Oper} {N : Tmp} {v : Value} {bs : List Bx} {F : World → Prop}
theorem rg_start {id n : Nat} (S : World → Prop) (ds : List Nat) (hS : S w) (hd : ∀ w, S w → S w.drew) (h : ∀ w', S w' → wpAnyLast P .any ops Q S ds n (Array.replicate n false) a w') (hm : P.follows .mixedOrders = true := by kernel_rfl) (hn : ops.size = n := by rfl) : (Code.region id ops true).wp P Q a w :=
 start_ (Array.replicate n false) hm hn rfl (hd _ hS) (h _)
theorem pu_ (i : Nat) (h : wpAnyLast P md ops Q S ds fuel (l.setIfInBounds i true) a' w)
 (hi : ops[i]? = some oi := by rfl) (hN : oi.dst = some N := by rfl) (hc : anyB md ops l (l.setIfInBounds i true) i = true := by kernel_rfl)
 (hw : Region.wanted oi (yielded ops a.tmps) = true := by first | exact wanted_plain rfl | (refine wanted_on rfl ?_; simp [yielded]))
 (hy : ∀ w', (execOp a.eval oi).run P w' = .ok (.value v) w' := by intro w'; go_simp; (try with_reducible rfl))
 (ha : a.put (some N) v = a' := by (simp only [Act.put, List.setIfInBounds_toArray, List.set_cons_zero, List.set_cons_succ]; rfl))
 (hQ : ∀ c a w, Q (.panic c) (a.put oi.dst v) w → Q (.panic c) a w := by exact fun _ _ _ h => h) : wpAnyLast P md ops Q S ds (fuel + 1) l a w :=
 pure_ (l.setIfInBounds i true) hi hN hc hQ (.inl ⟨hw, hy⟩) ha h
theorem ld_ (i k : Nat) {ty : TypeId} {x : Operand} {d : TypeDesc} {g : Nat} {t : TypeId} {cs : Array Value} (hS : S w)
 (h : wpAnyLast P md ops Q S ds fuel (l.setIfInBounds i true) a' w) (hSt : ∀ w, S w → St w0 w bs F := by exact fun _ h => h)
 (hi : ops[i]? = some oi := by rfl) (hN : oi.dst = some N := by rfl) (hc : takeB md ops ds l (l.setIfInBounds i true) i = true := by kernel_rfl)
 (ho : oi.op = .load ty x := by rfl) (hx : a.eval x = .pointer (some ⟨g, 0, none⟩) := by rfl) (e : bs[k]? = some (g, t, cs) := by rfl)
 (hw : Region.wanted oi (yielded ops a.tmps) = true := by first | exact wanted_plain rfl | (refine wanted_on rfl ?_; simp [yielded]))
 (hu : P.underlying ty = some d := by first | exact Tryd.underlying35 | exact Tryd.underlying37 | exact Tryd.underlying93 | exact Tryd.underlying26 | exact Tryd.underlying86 | exact Tryd.underlying107 | exact Tryd.underlying50 | exact Tryd.underlying54 | exact Tryd.underlying29 | exact Tryd.underlying102) (hdd : (match d with | .struct _ | .array _ _ => true | _ => false) = true := by rfl) (hs : (P.info? ty).map (·.size) = some cs.size := by kernel_rfl)
 (ha : a.put (some N) (.agg cs) = a' := by (simp only [Act.put, List.setIfInBounds_toArray, List.set_cons_zero, List.set_cons_succ]; rfl))
 (hQ : ∀ c a w, Q (.panic c) (a.put oi.dst (.agg cs)) w → Q (.panic c) a w := by exact fun _ _ _ h => h) : wpAnyLast P md ops Q S ds (fuel + 1) l a w :=
 take_ (l.setIfInBounds i true) hi hN hc hQ (.inl ⟨hw, fun w' hS' => by
  have hcc : atL w' ⟨g, 0, none⟩ 0 cs.toList := atL_blk (by simpa using (hSt w' hS').at_ k e)
  have hr := run_load_wide (P := P) w' ⟨g, 0, none⟩ ty cs.toList d hcc hu hdd (by simpa using hs)
  unfold execOp
  simp only [ho, hx, Instr.loadAt, Instr.sureAddr, Sem.run_bind, Sem.run_pure, Result.andThen_ok, hr]⟩) hS ha h
theorem fl_ (i k : Nat) {j : Nat} {ty : TypeId} {x : Operand} {g : Nat} {t : TypeId} {cs : Array Value} (hS : S w)
 (h : wpAnyLast P md ops Q S ds fuel (l.setIfInBounds i true) a' w) (hSt : ∀ w, S w → St w0 w bs F := by exact fun _ h => h)
 (hi : ops[i]? = some oi := by rfl) (hN : oi.dst = some N := by rfl) (hc : takeB md ops ds l (l.setIfInBounds i true) i = true := by kernel_rfl)
 (ho : oi.op = .load ty x := by rfl) (hx : a.eval x = .pointer (some ⟨g, j, none⟩) := by rfl) (e : bs[k]? = some (g, t, cs) := by rfl)
 (hw : Region.wanted oi (yielded ops a.tmps) = true := by first | exact wanted_plain rfl | (refine wanted_on rfl ?_; simp [yielded]))
 (hy : ∀ w', (∀ k, w'.cell? ⟨g, k, none⟩ = cs[k]?) → (execOp a.eval oi).run P w' = .ok (.value v) w' := by intro w' hc_; go_simp; (try with_reducible rfl))
 (ha : a.put (some N) v = a' := by (simp only [Act.put, List.setIfInBounds_toArray, List.set_cons_zero, List.set_cons_succ]; rfl))
 (hQ : ∀ c a w, Q (.panic c) (a.put oi.dst v) w → Q (.panic c) a w := by exact fun _ _ _ h => h) : wpAnyLast P md ops Q S ds (fuel + 1) l a w :=
 have _ := ho; have _ := hx
 take_ (l.setIfInBounds i true) hi hN hc hQ (.inl ⟨hw, fun w' hS' => hy w' (blk_cell ((hSt w' hS').at_ k e))⟩) hS ha h
theorem ta_ (i : Nat) (hS : S w) (hy : ∀ w', S w' → (execOp a.eval oi).run P w' = .ok (.value v) w')
 (h : wpAnyLast P md ops Q S ds fuel (l.setIfInBounds i true) a' w)
 (hi : ops[i]? = some oi := by rfl) (hN : oi.dst = some N := by rfl) (hc : takeB md ops ds l (l.setIfInBounds i true) i = true := by kernel_rfl)
 (hw : Region.wanted oi (yielded ops a.tmps) = true := by first | exact wanted_plain rfl | (refine wanted_on rfl ?_; simp [yielded]))
 (ha : a.put (some N) v = a' := by (simp only [Act.put, List.setIfInBounds_toArray, List.set_cons_zero, List.set_cons_succ]; rfl))
 (hQ : ∀ c a w, Q (.panic c) (a.put oi.dst v) w → Q (.panic c) a w := by exact fun _ _ _ h => h) : wpAnyLast P md ops Q S ds (fuel + 1) l a w :=
 take_ (l.setIfInBounds i true) hi hN hc hQ (.inl ⟨hw, hy⟩) hS ha h
theorem cl_ (i : Nat) {f : FuncId} {fn : Func} {xs : Array Operand} {ts : Array TypeId} (args : Array Value)
 (h : Calls P f args w fun e w' => ∃ v, e = .returned v ∧ S w' ∧ (S w' → wpAnyLast P md ops Q S ds fuel (l.setIfInBounds i true) (a.put (some N) v) w'))
 (hf : P.funcs[f]? = some fn)
 (hi : ops[i]? = some oi := by rfl) (hN : oi.dst = some N := by rfl) (hc : readyB md ops l (l.setIfInBounds i true) i = true := by kernel_rfl) (hd : i ∉ ds := by decide)
 (hop : oi.op = .call { callee := .value (.func f), args := xs, argTypes := ts } := by rfl) (hargs : xs.map a.eval = args := by ((try simp only [List.map_toArray, List.map_cons, List.map_nil]); first | done | rfl))
 (hw : Region.wanted oi (yielded ops a.tmps) = true := by first | exact wanted_plain rfl | (refine wanted_on rfl ?_; simp [yielded]))
 (hname : (fn.name == "runtime.NumGoroutine") = false := by kernel_rfl) (hb : fn.body.isSome = true := by rfl) : wpAnyLast P md ops Q S ds (fuel + 1) l a w :=
 one_ (l.setIfInBounds i true) hi hN hc hd fun _ hK => goes_ hf hname hb args hw hN hop hargs (h.mono fun _ _ ⟨v, he, hs, hh⟩ => ⟨v, he, hK.out _ _ hs hh⟩)
theorem nr_ (h : wpAnyLast P md ops Q S ds fuel l a' w) (ha : a = a' := by (simp only [Act.put, List.setIfInBounds_toArray, List.set_cons_zero, List.set_cons_succ]; rfl)) : wpAnyLast P md ops Q S ds fuel l a w := norm_ ha h
theorem rc_ (i : Nat) {rs : List Nat} (h : ∀ K' : Act → World → Prop, Shut (∀ a w, S w → (S w → wpAnyLast P md ops Q S ds fuel (l.setIfInBounds i true) a w) → K' a w) → if Region.wanted oi (yielded ops a.tmps) = true then Oper.wp P oi a w K' Q else K' (a.put oi.dst undef) w)
 (hs : AllReadyL P md ops Q S ds fuel l a w rs) (ho : ops[i]? = some oi := by rfl) (hd : i ∉ ds := by decide) : AllReadyL P md ops Q S ds fuel l a w (i :: rs) := AllReadyL.cons ho hd h hs
theorem rl_ (i : Nat) {rs : List Nat} (h : ∀ K' : Act → World → Prop, Shut (∀ a w, wpAnyLast P md ops Q S ds fuel (l.setIfInBounds i true) a w → K' a w) → if Region.wanted oi (yielded ops a.tmps) = true then Oper.wp P oi a w K' Q else K' (a.put oi.dst undef) w)
 (hs : AllReadyL P md ops Q S ds fuel l a w rs) (ho : ops[i]? = some oi := by rfl) (hd : i ∈ ds := by decide) : AllReadyL P md ops Q S ds fuel l a w (i :: rs) := AllReadyL.cons_last ho hd h hs
theorem re_ {rs : List Nat} (h : AllReadyL P md ops Q S ds fuel l a w rs) (hr : Region.ready md ops l = rs := by kernel_rfl) (hne : rs ≠ [] := by simp) : wpAnyLast P md ops Q S ds (fuel + 1) l a w := wpAnyLast_ready hr hne h
end
end Go.Proofs.YtjnicgfkogfifaaDoor
end

section
/- Numbers as bytes: how one is written and read; each has one form; what is cut is told where it ends. -/
namespace Go.Proofs.YtjnicgfkogfifaaDoor

inductive Rd (α : Type) where
 | ok (a : α) (i : Nat)
 | bad (p : Int) (e : Int)
def Rd.bind {α β : Type} : Rd α → (α → Nat → Rd β) → Rd β
 | .ok a i, f => f a i
 | .bad p e, _ => .bad p e
@[simp] theorem Rd.bind_ok {α β : Type} (a : α) (i : Nat) (f : α → Nat → Rd β) : (Rd.ok a i).bind f = f a i := rfl
@[simp] theorem Rd.bind_bad {α β : Type} (p : Int) (e : Int) (f : α → Nat → Rd β) : (Rd.bad p e).bind f = .bad p e := rfl
theorem Rd.bind_eq {α β : Type} {r : Rd α} {f : α → Nat → Rd β} {b : β} {j : Nat} (h : r.bind f = .ok b j) : ∃ a i, r = .ok a i ∧ f a i = .ok b j := by
 cases r with
 | ok a i => exact ⟨a, i, rfl, h⟩
 | bad p e => cases h

structure Cuts {α : Type} (R : List UInt8 → Nat → Rd α) : Prop where
 mono : ∀ xs i a j, i ≤ xs.length → R xs i = .ok a j → i ≤ j ∧ j ≤ xs.length
 cut : ∀ xs ys i a j, i ≤ xs.length → R (xs ++ ys) i = .ok a j → if j ≤ xs.length then R xs i = .ok a j else R xs i = .bad xs.length 102
 more : ∀ xs ys i a j, i ≤ xs.length → R xs i = .ok a j → R (xs ++ ys) i = .ok a j
theorem Cuts.bind {α β : Type} {R : List UInt8 → Nat → Rd α} {f : α → Nat → List UInt8 → Nat → Rd β} (h : Cuts R) (hf : ∀ a i, Cuts (f a i)) : Cuts (fun xs i => (R xs i).bind (fun a j => f a i xs j)) := by
 refine ⟨fun xs i b l hi hb => ?_, fun xs ys i b l hi hb => ?_, fun xs ys i b l hi hb => ?_⟩
 · obtain ⟨a, j, h1, h2⟩ := Rd.bind_eq hb
   have k1 := h.mono _ _ _ _ hi h1
   have k2 := (hf a i).mono _ _ _ _ k1.2 h2
   exact ⟨by omega, k2.2⟩
 · obtain ⟨a, j, h1, h2⟩ := Rd.bind_eq hb
   have k0 := h.mono _ _ _ _ (by rw [List.length_append]; omega) h1
   have k1 := h.cut _ _ _ _ _ hi h1
   have k2 := (hf a i).mono _ _ _ _ k0.2 h2
   by_cases hj : j ≤ xs.length
   · rw [if_pos hj] at k1
     simp only [k1, Rd.bind_ok]
     exact (hf a i).cut _ _ _ _ _ hj h2
   · rw [if_neg hj] at k1
     rw [if_neg (by omega)]
     simp only [k1, Rd.bind_bad]
 · obtain ⟨a, j, h1, h2⟩ := Rd.bind_eq hb
   simp only [h.more xs ys i a j hi h1, Rd.bind_ok]
   exact (hf a i).more xs ys j b l (h.mono _ _ _ _ hi h1).2 h2
theorem Cuts.pure {α : Type} (a : α) : Cuts (fun _ i => Rd.ok a i) :=
 ⟨fun _ _ _ _ hi h => by cases h; exact ⟨Nat.le_refl _, hi⟩, fun _ _ _ _ _ hi h => by cases h; rw [if_pos hi], fun _ _ _ _ _ _ h => by cases h; rfl⟩
theorem Cuts.ite {α : Type} {R T : List UInt8 → Nat → Rd α} {c : Prop} [Decidable c] (h : Cuts R) (k : Cuts T) : Cuts (fun xs i => if c then R xs i else T xs i) := by
 by_cases hc : c
 · simp only [if_pos hc]; exact h
 · simp only [if_neg hc]; exact k
theorem Cuts.bad {α : Type} (p : List UInt8 → Nat → Int) (e : Int) : Cuts (fun xs i => (Rd.bad (p xs i) e : Rd α)) :=
 ⟨fun _ _ _ _ _ h => (nomatch h), fun _ _ _ _ _ _ h => (nomatch h), fun _ _ _ _ _ _ h => (nomatch h)⟩

def numG (xs : List UInt8) (b : Nat) (d k i n : Nat) : Rd Nat :=
 match xs[i]? with
 | none => .bad xs.length 102
 | some c =>
  if c.toNat < 128 then (if c.toNat = 0 ∧ 0 < k then .bad b 101 else .ok (n + c.toNat % 128 * 128 ^ k) (i + 1))
  else match d with
   | 0 => .bad b 101
   | d + 1 => numG xs b d (k + 1) (i + 1) (n + c.toNat % 128 * 128 ^ k)
theorem numG_at {xs : List UInt8} {b d k j n : Nat} {x : UInt8} (hj : j < xs.length) (hx : x = xs.getD j 0) : numG xs b d k j n =
 if x.toNat < 128 then (if x.toNat = 0 ∧ 0 < k then .bad b 101 else .ok (n + x.toNat % 128 * 128 ^ k) (j + 1))
 else match d with
  | 0 => .bad b 101
  | d + 1 => numG xs b d (k + 1) (j + 1) (n + x.toNat % 128 * 128 ^ k) := by
 have h : xs[j]? = some x := by rw [hx, List.getD_eq_getElem?_getD, List.getElem?_eq_getElem hj]; rfl
 rw [numG, h]
def num (xs : List UInt8) (i : Nat) : Rd Nat := numG xs i 3 0 i 0
def encN (n : Nat) : List UInt8 := if n < 128 then [UInt8.ofNat n] else UInt8.ofNat (128 + n % 128) :: encN (n / 128)
termination_by n
decreasing_by omega
theorem encN_lt {n : Nat} (h : n < 128) : encN n = [UInt8.ofNat n] := by rw [encN, if_pos h]
theorem encN_ge {n : Nat} (h : 128 ≤ n) : encN n = UInt8.ofNat (128 + n % 128) :: encN (n / 128) := by rw [encN, if_neg (by omega)]
theorem encN_pos (n : Nat) : 0 < (encN n).length := by
 rw [encN]; split <;> simp
theorem u8_of (n : Nat) (h : n < 256) : (UInt8.ofNat n).toNat = n := by rw [UInt8.toNat_ofNat']; omega
theorem numG_enc (xs post : List UInt8) (b : Nat) : ∀ (d k n m : Nat) (pre : List UInt8), m < 128 ^ (d + 1) → (k = 0 ∨ 0 < m) → xs = pre ++ (encN m ++ post) →
 numG xs b d k pre.length n = .ok (n + m * 128 ^ k) (pre.length + (encN m).length) := by
 intro d
 induction d with
 | zero =>
  intro k n m pre hm hk hx
  have hm' : m < 128 := by simpa using hm
  have e := encN_lt hm'
  have g : xs[pre.length]? = some (UInt8.ofNat m) := by rw [hx, e]; simp
  rw [numG, g]
  have u := u8_of m (by omega)
  simp only [u, e, List.length_singleton]
  rw [if_pos hm', if_neg (by omega), Nat.mod_eq_of_lt hm']
 | succ d ih =>
  intro k n m pre hm hk hx
  by_cases hm' : m < 128
  · have e := encN_lt hm'
    have g : xs[pre.length]? = some (UInt8.ofNat m) := by rw [hx, e]; simp
    rw [numG, g]
    have u := u8_of m (by omega)
    simp only [u, e, List.length_singleton]
    rw [if_pos hm', if_neg (by omega), Nat.mod_eq_of_lt hm']
  · have e := encN_ge (n := m) (by omega)
    have g : xs[pre.length]? = some (UInt8.ofNat (128 + m % 128)) := by rw [hx, e]; simp
    rw [numG, g]
    have u := u8_of (128 + m % 128) (by omega)
    have hlt : m / 128 < 128 ^ (d + 1) := by
     rw [Nat.div_lt_iff_lt_mul (by omega)]
     rw [show d + 1 + 1 = (d + 1) + 1 from rfl, Nat.pow_succ] at hm
     exact hm
    have ih' := ih (k + 1) (n + m % 128 * 128 ^ k) (m / 128) (pre ++ [UInt8.ofNat (128 + m % 128)]) hlt (.inr (by omega)) (by rw [hx, e]; simp)
    simp only [u]
    rw [if_neg (by omega)]
    have q : (128 + m % 128) % 128 = m % 128 := by omega
    rw [List.length_append, List.length_singleton] at ih'
    rw [q, ih', e, List.length_cons]
    have hs : n + m % 128 * 128 ^ k + m / 128 * 128 ^ (k + 1) = n + m * 128 ^ k := by
     rw [Nat.pow_succ, Nat.mul_comm (128 ^ k) 128, ← Nat.mul_assoc, Nat.add_assoc, ← Nat.add_mul]
     congr 2
     omega
    rw [hs]
    congr 1
    omega
theorem numG_ok (xs : List UInt8) (b : Nat) : ∀ (d k i n v j : Nat), numG xs b d k i n = .ok v j → ∃ m, v = n + m * 128 ^ k ∧ m < 128 ^ (d + 1) ∧ (k = 0 ∨ 0 < m) ∧ xs.drop i = encN m ++ xs.drop j ∧ i < j ∧ j ≤ xs.length := by
 intro d
 induction d with
 | zero =>
  intro k i n v j h
  rw [numG] at h
  split at h
  · cases h
  · rename_i c hc
    have hi : i < xs.length := (List.getElem?_eq_some_iff.1 hc).1
    have hci : xs[i] = c := (List.getElem?_eq_some_iff.1 hc).2
    split at h
    · rename_i h1
      split at h
      · cases h
      · rename_i h2
        cases h
        have e : encN c.toNat = [c] := by rw [encN_lt h1]; simp
        refine ⟨c.toNat, by rw [Nat.mod_eq_of_lt h1], by simpa using h1, by omega, ?_, by omega, by omega⟩
        rw [e, List.drop_eq_getElem_cons hi, hci]; rfl
    · cases h
 | succ d ih =>
  intro k i n v j h
  rw [numG] at h
  split at h
  · cases h
  · rename_i c hc
    have hi : i < xs.length := (List.getElem?_eq_some_iff.1 hc).1
    have hci : xs[i] = c := (List.getElem?_eq_some_iff.1 hc).2
    split at h
    · rename_i h1
      split at h
      · cases h
      · rename_i h2
        cases h
        have e : encN c.toNat = [c] := by rw [encN_lt h1]; simp
        have h3 : 128 ^ 1 ≤ 128 ^ (d + 1 + 1) := Nat.pow_le_pow_right (by omega) (by omega)
        refine ⟨c.toNat, by rw [Nat.mod_eq_of_lt h1], by omega, by omega, ?_, by omega, by omega⟩
        rw [e, List.drop_eq_getElem_cons hi, hci]; rfl
    · rename_i h1
      obtain ⟨m, hv, hm, hk, hd, hij, hj⟩ := ih _ _ _ _ _ h
      have hc2 := c.toNat_lt
      have e : encN (c.toNat % 128 + m * 128) = c :: encN m := by
       rw [encN_ge (by omega)]
       have q1 : 128 + (c.toNat % 128 + m * 128) % 128 = c.toNat := by omega
       have q2 : (c.toNat % 128 + m * 128) / 128 = m := by omega
       rw [q1, q2]; simp
      refine ⟨c.toNat % 128 + m * 128, ?_, ?_, by omega, ?_, by omega, hj⟩
      · rw [hv, Nat.pow_succ, Nat.add_mul, Nat.mul_assoc m 128, Nat.mul_comm 128 (128 ^ k)]; omega
      · rw [Nat.pow_succ]; omega
      · rw [e, List.drop_eq_getElem_cons hi, hci, hd]; rfl
theorem numG_cut (xs ys : List UInt8) (b : Nat) : ∀ (d k i n v j : Nat), i ≤ xs.length → numG (xs ++ ys) b d k i n = .ok v j → if j ≤ xs.length then numG xs b d k i n = .ok v j else numG xs b d k i n = .bad xs.length 102 := by
 intro d
 induction d with
 | zero =>
  intro k i n v j hi h
  rw [numG] at h ⊢
  by_cases hlt : i < xs.length
  · rw [List.getElem?_append_left hlt] at h
    rw [List.getElem?_eq_getElem hlt] at h ⊢
    simp only at h ⊢
    split at h
    · split at h
      · cases h
      · rename_i h1 h2
        cases h
        rw [if_pos (by omega), if_pos h1, if_neg h2]
    · cases h
  · have he : xs[i]? = none := List.getElem?_eq_none (by omega)
    rw [he]
    split at h
    · cases h
    · split at h
      · split at h
        · cases h
        · cases h
          rw [if_neg (by omega)]
      · cases h
 | succ d ih =>
  intro k i n v j hi h
  have hij := (numG_ok _ _ _ _ _ _ _ _ h).choose_spec.2.2.2.2.1
  rw [numG] at h ⊢
  by_cases hlt : i < xs.length
  · rw [List.getElem?_append_left hlt] at h
    rw [List.getElem?_eq_getElem hlt] at h ⊢
    simp only at h ⊢
    split at h
    · split at h
      · cases h
      · rename_i h1 h2
        cases h
        rw [if_pos (by omega), if_pos h1, if_neg h2]
    · rename_i h1
      rw [if_neg h1]
      exact ih _ _ _ _ _ (by omega) h
  · have he : xs[i]? = none := List.getElem?_eq_none (by omega)
    rw [he, if_neg (by omega)]
theorem num_enc (pre post : List UInt8) (m : Nat) (hm : m < 268435456) : num (pre ++ (encN m ++ post)) pre.length = .ok m (pre.length + (encN m).length) := by
 have := numG_enc (pre ++ (encN m ++ post)) post pre.length 3 0 0 m pre (by omega) (.inl rfl) rfl
 unfold num
 rw [this]; simp
theorem num_ok {xs : List UInt8} {i v j : Nat} (h : num xs i = .ok v j) : v < 268435456 ∧ xs.drop i = encN v ++ xs.drop j ∧ i < j ∧ j ≤ xs.length := by
 obtain ⟨m, hv, hm, _, h2, h3, h4⟩ := numG_ok _ _ _ _ _ _ _ _ h
 have : v = m := by simpa using hv
 subst this
 exact ⟨by omega, h2, h3, h4⟩
theorem num_rt {xs r : List UInt8} {i m : Nat} (h : xs.drop i = encN m ++ r) (hm : m < 268435456) : num xs i = .ok m (i + (encN m).length) ∧ xs.drop (i + (encN m).length) = r := by
 have hi : i < xs.length := by
  have h1 := congrArg List.length h
  have := encN_pos m
  rw [List.length_drop, List.length_append] at h1
  omega
 have hx : xs = xs.take i ++ (encN m ++ r) := by rw [← h, List.take_append_drop]
 have hl : (xs.take i).length = i := by rw [List.length_take]; omega
 have := num_enc (xs.take i) r m hm
 rw [← hx, hl] at this
 exact ⟨this, by rw [← List.drop_drop, h, List.drop_left]⟩
theorem num_cuts : Cuts num :=
 ⟨fun xs i a j _ h => by have := num_ok h; omega, fun xs ys i a j hi h => numG_cut xs ys i _ _ _ _ _ _ hi h, fun xs ys i a j hi h => by
  obtain ⟨h1, h2, h3, h4⟩ := num_ok h
  have e := congrArg List.length h2
  rw [List.length_drop, List.length_append, List.length_drop] at e
  have k := (num_rt (xs := xs ++ ys) (r := xs.drop j ++ ys) (i := i) (m := a) (by rw [List.drop_append_of_le_length hi, h2, List.append_assoc]) h1).1
  rw [k]
  congr 1
  omega⟩

def betw (lo hi : Nat) (e : Int) (xs : List UInt8) (i : Nat) : Rd Nat := (num xs i).bind fun n j => if n < lo ∨ hi < n then .bad i e else .ok n j
theorem betw_cuts (lo hi : Nat) (e : Int) : Cuts (betw lo hi e) :=
 Cuts.bind (f := fun n i _ j => if n < lo ∨ hi < n then .bad i e else .ok n j) num_cuts fun n i => Cuts.ite (Cuts.bad (fun _ _ => i) e) (Cuts.pure n)
theorem betw_ok {lo hi : Nat} {e : Int} {xs : List UInt8} {i v j : Nat} (h : betw lo hi e xs i = .ok v j) : (lo ≤ v ∧ v ≤ hi ∧ v < 268435456) ∧ xs.drop i = encN v ++ xs.drop j ∧ i < j ∧ j ≤ xs.length := by
 unfold betw at h
 obtain ⟨n, k, h1, h2⟩ := Rd.bind_eq h
 have := num_ok h1
 split at h2
 · cases h2
 · cases h2; exact ⟨by omega, this.2⟩
theorem betw_rt {lo hi : Nat} {e : Int} {xs r : List UInt8} {i m : Nat} (h : xs.drop i = encN m ++ r) (hm : m < 268435456) (h1 : lo ≤ m) (h2 : m ≤ hi) : betw lo hi e xs i = .ok m (i + (encN m).length) ∧ xs.drop (i + (encN m).length) = r := by
 obtain ⟨k1, k2⟩ := num_rt h hm
 unfold betw
 rw [k1, Rd.bind_ok, if_neg (by omega)]
 exact ⟨rfl, k2⟩
end Go.Proofs.YtjnicgfkogfifaaDoor
end

section
/- A slice of bytes as a list of bytes. For any program. -/
namespace Go.Proofs.YtjnicgfkogfifaaDoor
open Go.RowKit

def u8 (b : UInt8) : Value := .int .u8 (b.toNat : Int)
def BytesAt (w : World) (A : Option Addr) (l : List UInt8) : Prop :=
 ∀ k, k < l.length → ∃ b o, A = some ⟨b, o, none⟩ ∧ b < w.heap.size ∧ w.cell? ⟨b, o + k, none⟩ = some (.int .u8 ((l.getD k 0).toNat : Int))

theorem BytesAt.below {w w' : World} {A : Option Addr} {l : List UInt8} (h : BytesAt w A l) (hb : Below w.heap.size w w') : BytesAt w' A l := by
 intro k hk'
 obtain ⟨b, o, hA, hb', h1⟩ := h k hk'
 exact ⟨b, o, hA, by have := hb.size; omega, (hb.cell (p := ⟨b, _, none⟩) hb').trans h1⟩
theorem BytesAt.nil (w : World) (A : Option Addr) : BytesAt w A [] := fun k hk => by simp at hk

theorem BytesAt.take {w : World} {A : Option Addr} {l : List UInt8} (h : BytesAt w A l) (n : Nat) : BytesAt w A (l.take n) := by
 intro k hk
 rw [List.length_take] at hk
 obtain ⟨b, o, hA, hb', h1⟩ := h k (by omega)
 refine ⟨b, o, hA, hb', ?_⟩
 rw [h1, List.getD_eq_getElem?_getD, List.getD_eq_getElem?_getD, List.getElem?_take, if_pos (by omega)]
theorem BytesAt.drop {w : World} {b o : Nat} {l : List UInt8} (h : BytesAt w (some ⟨b, o, none⟩) l) (n : Nat) : BytesAt w (some ⟨b, o + n, none⟩) (l.drop n) := by
 intro k hk
 rw [List.length_drop] at hk
 obtain ⟨b', o', hA, hb', h1⟩ := h (n + k) (by omega)
 cases hA
 refine ⟨b, o + n, rfl, hb', ?_⟩
 rw [Nat.add_assoc, h1, List.getD_eq_getElem?_getD, List.getD_eq_getElem?_getD, List.getElem?_drop]

def vals (l : List UInt8) : List Value := l.map u8
theorem vals_length (l : List UInt8) : (vals l).length = l.length := by simp [vals]
theorem own_bytes {w : World} {base : Nat} {e : TypeId} {v : Value} {n : Nat} {l : List UInt8} (h : w.ownsRow base e 1 v n (vals l)) : n = l.length ∧ ∃ A c, v = .slice A l.length c ∧ BytesAt w A l ∧ (A = none → c = 0) ∧ l.length ≤ c ∧ c ≤ 9223372036854775807 := by
 have hn : n = l.length := by have := h.1; rw [vals_length] at this; omega
 subst hn
 refine ⟨rfl, ?_⟩
 rcases h.2 with ⟨rfl, hn⟩ | ⟨g, cap, cur, rfl, hg, hh, hnc, hcm, hsz, ht⟩
 · exact ⟨none, 0, by rw [hn], fun k hk => by omega, fun _ => rfl, by omega, by omega⟩
 · refine ⟨some ⟨g, 0, none⟩, cap, rfl, fun k hk => ⟨g, 0, rfl, (Array.getElem?_eq_some_iff.1 hh).1, ?_⟩, (fun h => by cases h), hnc, by simpa [maxLen] using hcm⟩
   have h1 : (vals l)[k]? = some (u8 (l.getD k 0)) := by simp [vals, hk]
   rw [← ht, List.getElem?_take, if_pos (by omega)] at h1
   rw [cell_of_row w g _ cur e (0, 0) hh]
   simpa [u8] using h1
end Go.Proofs.YtjnicgfkogfifaaDoor
end

section
/- A slice of slices of bytes as a list of lists of bytes. For any program. -/
namespace Go.Proofs.YtjnicgfkogfifaaDoor
open Go.RowKit

def IsBytes (w : World) (v : Value) (l : List UInt8) : Prop := ∃ A c, v = .slice A l.length c ∧ BytesAt w A l ∧ (A = none → c = 0) ∧ l.length ≤ c ∧ c ≤ 9223372036854775807
theorem IsBytes.below {w w' : World} {v : Value} {l : List UInt8} (h : IsBytes w v l) (hb : Below w.heap.size w w') : IsBytes w' v l := by
 obtain ⟨A, c, h1, h2, h3⟩ := h
 exact ⟨A, c, h1, h2.below hb, h3⟩
theorem IsBytes.own {w : World} {base : Nat} {e : TypeId} {v : Value} {n : Nat} {l : List UInt8} (h : w.ownsRow base e 1 v n (vals l)) : IsBytes w v l := by
 obtain ⟨_, A, c, h1, h2, h3, h4, h5⟩ := own_bytes h
 exact ⟨A, c, h1, h2, h3, h4, h5⟩

def RowsAt (w : World) (A : Option Addr) (ls : List (List UInt8)) : Prop :=
 ∀ k, k < ls.length → ∃ b o v, A = some ⟨b, o, none⟩ ∧ b < w.heap.size ∧ w.cell? ⟨b, o + k, none⟩ = some v ∧ IsBytes w v (ls.getD k [])

theorem RowsAt.below {w w' : World} {A : Option Addr} {ls : List (List UInt8)} (h : RowsAt w A ls) (hb : Below w.heap.size w w') : RowsAt w' A ls := by
 intro k hk'
 obtain ⟨b, o, v, hA, hb', h1, h2⟩ := h k hk'
 exact ⟨b, o, v, hA, by have := hb.size; omega, (hb.cell (p := ⟨b, _, none⟩) hb').trans h1, h2.below hb⟩
theorem RowsAt.nil (w : World) (A : Option Addr) : RowsAt w A [] := fun k hk => by simp at hk
theorem RowsAt.take {w : World} {A : Option Addr} {ls : List (List UInt8)} (h : RowsAt w A ls) (n : Nat) : RowsAt w A (ls.take n) := by
 intro k hk
 rw [List.length_take] at hk
 obtain ⟨b, o, v, hA, hb', h1, h2⟩ := h k (by omega)
 refine ⟨b, o, v, hA, hb', h1, ?_⟩
 rw [List.getD_eq_getElem?_getD, List.getElem?_take, if_pos (by omega), ← List.getD_eq_getElem?_getD]
 exact h2

def OwnRows (w : World) (base : Nat) (e : TypeId) (v : Value) (ls : List (List UInt8)) : Prop :=
 ∃ xs : List Value, w.ownsRow base e 1 v ls.length xs ∧ ∀ i x, xs[i]? = some x → IsBytes w x (ls.getD i [])

theorem OwnRows.nil (w : World) (base : Nat) (e : TypeId) : OwnRows w base e (.slice none 0 0) [] := ⟨[], ⟨rfl, .inl ⟨rfl, rfl⟩⟩, fun i x h => by simp at h⟩
theorem OwnRows.mono {w : World} {base base' : Nat} {e : TypeId} {v : Value} {ls : List (List UInt8)} (h : OwnRows w base e v ls) (hb : base' ≤ base) : OwnRows w base' e v ls := by
 obtain ⟨xs, h1, h2⟩ := h
 exact ⟨xs, World.ownsRow.mono h1 hb, h2⟩
theorem OwnRows.later {w w' : World} {base : Nat} {e : TypeId} {v : Value} {ls : List (List UInt8)} (h : OwnRows w base e v ls) (hb : Below w.heap.size w w') : OwnRows w' base e v ls := by
 obtain ⟨xs, ho, hx⟩ := h
 refine ⟨xs, ⟨ho.1, ?_⟩, fun i x hi => (hx i x hi).below hb⟩
 rcases ho.2 with h0 | ⟨g, cap, cur, rfl, hbg, hg, r⟩
 · exact .inl h0
 · exact .inr ⟨g, cap, cur, rfl, hbg, (hb.block g (Array.getElem?_eq_some_iff.1 hg).1).trans hg, r⟩
def Apart (u v : Value) : Prop := u.ownBlock = none ∨ u.ownBlock ≠ v.ownBlock
theorem Apart.symm {u v : Value} (h : Apart u v) : Apart v u := by
 unfold Apart at h ⊢
 cases hv : v.ownBlock with
 | none => exact .inl rfl
 | some k =>
  right
  rcases h with h | h
  · rw [h]; simp
  · rw [hv] at h; exact fun e => h e.symm
theorem Apart.grown {w : World} {base : Nat} {e : TypeId} {size n : Nat} {u v v' : Value} {xs : List Value} (h : Apart u v) (hu : w.ownsRow base e size u n xs) {m : Nat} (hm : w.heap.size ≤ m) (hat : v'.ownBlock = v.ownBlock ∨ v'.ownBlock = some m) : Apart u v' := by
 unfold Apart at h ⊢
 rcases hat with h1 | h1
 · rw [h1]; exact h
 · cases hu0 : u.ownBlock with
   | none => exact .inl rfl
   | some k =>
    right
    rw [h1]
    intro e
    have := (hu.lt k hu0).2
    simp at e
    omega
theorem Apart.nil (v : Value) (n c : Nat) : Apart (.slice none n c) v := .inl (by simp [Value.ownBlock])
end Go.Proofs.YtjnicgfkogfifaaDoor
end

section
/- Bits of numbers as the reader and the writer of msg use them. -/
namespace Go.Proofs.YtjnicgfkogfifaaDoor
open Go.RowKit

theorem wrap_id {n : Int} (h0 : -9223372036854775808 ≤ n) (h1 : n ≤ 9223372036854775807) : wrap64 n = n := by unfold wrap64; omega
theorem i64_or_nat (a b : Nat) (ha : a < 9223372036854775808) (hb : b < 9223372036854775808) : bits .or .i64 (a : Int) (b : Int) = ((a ||| b : Nat) : Int) := by
 have hx : a ||| b < 2 ^ 63 := Nat.or_lt_two_pow (by omega) (by omega)
 show IntKind.i64.wrap ((BitVec.ofInt 64 (a : Int) ||| BitVec.ofInt 64 (b : Int)).toNat : Int) = _
 rw [BitVec.toNat_or, ofInt_u64 a (by omega), ofInt_u64 b (by omega), IntKind.wrap_i64]
 omega
theorem or_step {m kk : Nat} (x : UInt8) (hm : m < 128 ^ kk) (hk : kk ≤ 3) : bits .or .i64 (m : Int) (wrap64 (wrap64 (bits .and .u8 (x.toNat : Int) 127) * 2 ^ (7 * kk))) = ((m + x.toNat % 128 * 128 ^ kk : Nat) : Int) := by
 have hx := x.toNat_lt
 have h1 : bits .and .u8 (x.toNat : Int) 127 = ((x.toNat % 128 : Nat) : Int) := by
  rw [show (127 : Int) = ((127 : Nat) : Int) from rfl, u8_and_nat _ _ (by omega) (by omega)]
  rw [show (127 : Nat) = 2 ^ 7 - 1 from rfl, Nat.and_two_pow_sub_one_eq_mod]
 have hp : (128 : Nat) ^ kk = 2 ^ (7 * kk) := by rw [Nat.pow_mul]
 have hb : 128 ^ kk ≤ 2097152 := by
  have := Nat.pow_le_pow_right (n := 128) (by omega) hk
  omega
 have hy : x.toNat % 128 * 128 ^ kk < 268435456 := by
  have h : x.toNat % 128 * 128 ^ kk ≤ 127 * 2097152 := Nat.mul_le_mul (by omega) hb
  omega
 rw [h1, wrap_id (n := ((x.toNat % 128 : Nat) : Int)) (by omega) (by omega)]
 have h2 : ((x.toNat % 128 : Nat) : Int) * 2 ^ (7 * kk) = ((x.toNat % 128 * 128 ^ kk : Nat) : Int) := by rw [hp]; simp
 rw [h2, wrap_id (by omega) (by omega), i64_or_nat _ _ (by omega) (by omega)]
 congr 1
 rw [hp] at hm ⊢
 rw [Nat.or_comm, Nat.mul_comm, ← Nat.two_pow_add_eq_or_of_lt hm]
 omega
theorem step_lt {m kk : Nat} (x : UInt8) (hm : m < 128 ^ kk) : m + x.toNat % 128 * 128 ^ kk < 128 ^ (kk + 1) := by
 have h : x.toNat % 128 * 128 ^ kk ≤ 127 * 128 ^ kk := Nat.mul_le_mul (by omega) (Nat.le_refl _)
 rw [Nat.pow_succ]
 omega
end Go.Proofs.YtjnicgfkogfifaaDoor
end

section
/- The reader of msg: a number, by its contract. -/
namespace Go.Proofs.YtjnicgfkogfifaaDoor
open Go.RowKit Go.Proofs.YtjnicgfkogfifaaDoorW.PrintWords Go.Proofs.YtjnicgfkogfifaaDoorW.PrintLast

abbrev rdA (A : Option Addr) (n c i : Nat) : Array Value := #[.slice A n c, .int .i64 (i : Int)]
abbrev flt (p e : Int) : Ending := .panicked [{ v := .iface 107 (.agg #[.int .i64 p, .int .i64 e]), recovered := false }]
def Got (w0 : World) (bs : List Bx) (F : World → Prop) (g : Nat) (A : Option Addr) (n c : Nat) (r : Rd Nat) (e : Ending) (w' : World) : Prop :=
 match r with
 | .ok m j => e = .returned (.int .i64 (m : Int)) ∧ St w0 w' ((g, 93, rdA A n c j) :: bs) F
 | .bad p er => e = flt p er ∧ ∃ cs, St w0 w' ((g, 93, cs) :: bs) F
theorem got_ok {w0 w : World} {bs : List Bx} {F : World → Prop} {g : Nat} {A : Option Addr} {n c m j : Nat} {r : Rd Nat} (h : r = .ok m j) (S : St w0 w ((g, 93, rdA A n c j) :: bs) F) : Got w0 bs F g A n c r (.returned (.int .i64 (m : Int))) w := by rw [h]; exact ⟨rfl, S⟩
theorem got_bad {w0 w : World} {bs : List Bx} {F : World → Prop} {g : Nat} {A : Option Addr} {n c : Nat} {p e : Int} {cs : Array Value} {r : Rd Nat} (h : r = .bad p e) (S : St w0 w ((g, 93, cs) :: bs) F) : Got w0 bs F g A n c r (flt p e) w := by rw [h]; exact ⟨rfl, cs, S⟩
set_option maxRecDepth 100000 in
set_option maxHeartbeats 4000000 in
theorem number_any (w0 w : World) (bs : List Bx) (F : World → Prop) (g : Nat) (A : Option Addr) (c i : Nat) (xs : List UInt8) (S : St w0 w ((g, 93, rdA A xs.length c i) :: bs) F) (hF : ∀ W, F W → BytesAt W A xs) (hi : i ≤ xs.length) (hl : xs.length ≤ 140737488351232) :
 Calls Tryd.prog 53 #[.pointer (some ⟨g, 0, none⟩)] w (Got w0 bs F g A xs.length c (num xs i)) := by
 have HF := Aside0.mk hF
 replace S := Aside0.mk S
 clear hF
 go_enter Tryd.func53, Tryd.ntmps53
 go_upto_region 1 with (fail)
 refine rg_start (n := 6) (fun W => St w0 W _ F) [] S.out (fun _ h => h.drew) ?_
 clear S
 intro _ S
 refine pu_ 0 ?_; refine pu_ 1 ?_; refine pu_ 2 ?_; refine fl_ 3 0 S ?_; refine pu_ 4 ?_; refine pu_ 5 ?_
 refine done_ (by kernel_rfl) ?_
 replace S := Aside0.mk S
 go_wp2_with (fail)
 go_loopw [3, 5] (fun n' k' wr => ∃ d kk j m : Nat, kk + d = 3 ∧ n' = .int .i64 (m : Int) ∧ k' = .int .i64 (kk : Int) ∧ m < 128 ^ kk ∧ j ≤ xs.length ∧ numG xs i d kk j m = num xs i ∧ Aside0 (St w0 wr ((g, 93, rdA A xs.length c j) :: bs) F)) (fun _ k' _ => 3 - (intOf k').toNat)
 case atStart => exact ⟨3, 0, i, 0, rfl, rfl, rfl, by omega, hi, rfl, S⟩
 case round =>
  obtain ⟨d, kk, j, m, hd, rfl, rfl, hm, hj, hn, S⟩ := hrel
  have HN := Aside0.mk hn
  clear hn
  by_cases hlt : j < xs.length
  · obtain ⟨b, o, rfl, _, _⟩ := HF.out _ S.out.now j hlt
    have q1 : decide (xs.length ≤ j) = false := decide_eq_false (by omega)
    obtain ⟨x, hx⟩ : ∃ x, x = xs.getD j 0 := ⟨_, rfl⟩
    have HX := Aside0.mk hx
    clear hx
    go_upto_region 4 with (fail)
    refine rg_start (n := 10) (fun W => St w0 W _ F) [] S.out (fun _ h => h.drew) ?_
    clear S
    intro _ S
    refine pu_ 0 ?_; refine pu_ 1 ?_; refine pu_ 2 ?_; refine fl_ 3 0 S ?_; refine pu_ 4 ?_; refine pu_ 5 ?_; refine pu_ 6 ?_; refine fl_ 7 0 S ?_; refine pu_ 8 ?_; refine pu_ 9 ?_
    refine done_ (by kernel_rfl) ?_
    replace S := Aside0.mk S
    go_upto_region 6 with (fail)
    refine rg_start (n := 11) (fun W => St w0 W _ F) [] S.out (fun _ h => h.drew) ?_
    clear S
    intro _ S
    have hj0 : (0 : Int) ≤ (j : Int) := by omega
    have hj1 : (j : Int) < (xs.length : Int) := by omega
    refine pu_ 0 ?_; refine pu_ 1 ?_; refine pu_ 2 ?_; refine fl_ 3 0 S ?_; refine pu_ 4 ?_; refine pu_ 5 ?_; refine pu_ 6 ?_; refine fl_ 7 0 S ?_; refine pu_ 8 ?_
    refine ta_ 9 (v := .int .u8 (x.toNat : Int)) S (fun w' hS' => ?_) ?_
    · obtain ⟨b', o', hb', _, hc⟩ := HF.out w' hS'.now j hlt
      cases hb'
      rw [← HX.out] at hc
      go_simp
    refine pu_ 10 ?_
    refine done_ (by kernel_rfl) ?_
    replace S := Aside0.mk S
    go_upto_region 8 with (first | ((with_reducible refine gate_load rfl ?_); refine ev_fld S ?_) | ((with_reducible refine gate_st rfl ?_); refine ev_set S ?_; clear S; intro _ S))
    go_upto_region 9 with (fail)
    have ho := or_step x hm (by omega)
    rw [ho]
    have hsl := step_lt x hm
    have hN := numG_at (b := i) (d := d) (k := kk) (n := m) hlt HX.out
    rw [HN.out] at hN
    clear ho HN
    replace S := Aside0.mk (show St w0 _ ((g, 93, rdA (some ⟨b, o, none⟩) xs.length c (j + 1)) :: bs) F from S.out)
    by_cases h1 : x.toNat < 128
    · rw [if_pos h1] at hN
      by_cases h2 : x.toNat = 0 ∧ 0 < kk
      · rw [if_pos h2] at hN
        have HN := Aside0.mk hN
        obtain ⟨h3, h4⟩ := h2
        have q4 : (0 : Int) < (kk : Int) := by omega
        rw [h3]
        clear hN
        go_wp2_with (first | ((with_reducible refine gate_load rfl ?_); refine ev_fld S ?_) | ((with_reducible refine gate_st rfl ?_); refine ev_set S ?_; clear S; intro _ S))
        exact ⟨rfl, got_bad HN.out S.out⟩
      · rw [if_neg h2] at hN
        have HN := Aside0.mk hN
        clear hN
        have q3 : decide ((x.toNat : Int) < 128) = true := decide_eq_true (by omega)
        by_cases h3 : x.toNat = 0
        · have h4 : kk = 0 := by omega
          subst h4
          rw [h3] at HN
          rw [h3]
          clear h2
          go_wp2_with (first | ((with_reducible refine gate_load rfl ?_); refine ev_fld S ?_) | ((with_reducible refine gate_st rfl ?_); refine ev_set S ?_; clear S; intro _ S))
          go_ret
          exact got_ok (m := m + 0 % 128 * 128 ^ 0) HN.out S.out
        · clear h2
          go_wp2_with (first | ((with_reducible refine gate_load rfl ?_); refine ev_fld S ?_) | ((with_reducible refine gate_st rfl ?_); refine ev_set S ?_; clear S; intro _ S))
          go_ret
          exact got_ok (m := m + x.toNat % 128 * 128 ^ kk) HN.out S.out
    · rw [if_neg h1] at hN
      cases d with
      | zero =>
       have h3 : kk = 3 := by omega
       subst h3
       have HN := Aside0.mk hN
       clear hN
       go_wp2_with (first | ((with_reducible refine gate_load rfl ?_); refine ev_fld S ?_) | ((with_reducible refine gate_st rfl ?_); refine ev_set S ?_; clear S; intro _ S))
       exact ⟨rfl, got_bad HN.out S.out⟩
      | succ d =>
       have HN := Aside0.mk hN
       have h3 : ¬ kk = 3 := by omega
       clear hN
       go_wp2_with (first | ((with_reducible refine gate_load rfl ?_); refine ev_fld S ?_) | ((with_reducible refine gate_st rfl ?_); refine ev_set S ?_; clear S; intro _ S))
       go_roundw
       case rel => exact ⟨d, kk + 1, j + 1, _, by omega, rfl, by go_num, hsl, by omega, HN.out.symm, S⟩
       case measure => simp [intOf]; omega
  · have q1 : decide (xs.length ≤ j) = true := decide_eq_true (by omega)
    have hN : Rd.bad xs.length 102 = num xs i := by
     rw [← HN.out, numG, List.getElem?_eq_none (by omega)]
    have HN := Aside0.mk hN
    clear hN
    go_upto_region 4 with (fail)
    refine rg_start (n := 10) (fun W => St w0 W _ F) [] S.out (fun _ h => h.drew) ?_
    clear S
    intro _ S
    refine pu_ 0 ?_; refine pu_ 1 ?_; refine pu_ 2 ?_; refine fl_ 3 0 S ?_; refine pu_ 4 ?_; refine pu_ 5 ?_; refine pu_ 6 ?_; refine fl_ 7 0 S ?_; refine pu_ 8 ?_; refine pu_ 9 ?_
    refine done_ (by kernel_rfl) ?_
    replace S := Aside0.mk S
    go_wp2_with (first | ((with_reducible refine gate_load rfl ?_); refine ev_fld S ?_) | ((with_reducible refine gate_st rfl ?_); refine ev_set S ?_; clear S; intro _ S))
    exact ⟨rfl, got_bad HN.out.symm S.out⟩
end Go.Proofs.YtjnicgfkogfifaaDoor
end

section
/- Commands and messages as bytes: how one is written and read; each has one form. (chk: what the check of a text answers.) -/
namespace Go.Proofs.YtjnicgfkogfifaaDoor

inductive Body where
 | ins (p : Nat) (t : List UInt8)
 | hide (l : List (Nat × Nat))
 | status (c s : Nat) (on : Bool)
structure Cmd where
 c : Nat
 s : Nat
 b : Body
inductive MB where
 | hello
 | submit (o : Cmd)
 | ack (q : Nat)
 | cast (o : Cmd)
structure MM where
 client : Nat
 rev : Nat
 b : MB

section
variable (chk : List UInt8 → Int × Int × Int)
def textR (p n : Nat) (xs : List UInt8) (i : Nat) : Rd Body :=
 if xs.length < i + n then .bad xs.length 102
 else if (chk ((xs.drop i).take n)).2.2 ≠ 0 then .bad (i + (chk ((xs.drop i).take n)).2.1) (chk ((xs.drop i).take n)).2.2
 else if 256 < (chk ((xs.drop i).take n)).1 then .bad i 14
 else if 1048576 < (p : Int) + (chk ((xs.drop i).take n)).1 then .bad i 24
 else .ok (.ins p ((xs.drop i).take n)) (i + n)
def insR (xs : List UInt8) (i : Nat) : Rd Body :=
 (betw 0 1048576 12 xs i).bind fun p i1 => (num xs i1).bind fun n i2 => if n = 0 then .bad i1 15 else if 1024 < n then .bad i1 14 else textR chk p n xs i2
def rangesR (xs : List UInt8) : (d : Nat) → (first : Bool) → (hi i : Nat) → Rd (List (Nat × Nat))
 | 0, _, _, i => .ok [] i
 | d + 1, first, hi, i => (num xs i).bind fun gap i1 => if gap = 0 ∧ first = false then .bad i 22 else
  (num xs i1).bind fun n i2 => if n = 0 ∨ 1048576 < hi + gap + n then .bad i1 20 else
  (rangesR xs d false (hi + gap + n) i2).bind fun l i3 => .ok ((hi + gap, hi + gap + n) :: l) i3
def hideR (xs : List UInt8) (i : Nat) : Rd Body :=
 (num xs i).bind fun n i1 => if n = 0 then .bad i 43 else if 32768 < n then .bad i 21 else (rangesR xs n true 0 i1).bind fun l j => .ok (.hide l) j
def statusR (c s : Nat) (xs : List UInt8) (i : Nat) : Rd Body :=
 (betw 1 8 63 xs i).bind fun a i1 => (betw 1 1024 63 xs i1).bind fun b i2 => if a = c ∧ b = s then .bad i1 63 else (betw 0 1 104 xs i2).bind fun on j => .ok (.status a b (decide (on = 1))) j
def bodyR (k c s : Nat) (xs : List UInt8) (i : Nat) : Rd Body := if k = 1 then insR chk xs i else if k = 2 then hideR xs i else statusR c s xs i
def cmdR (xs : List UInt8) (i : Nat) : Rd Cmd :=
 (num xs i).bind fun k i1 => if k ≠ 1 ∧ k ≠ 2 ∧ k ≠ 4 then .bad i 40 else
  (betw 1 8 41 xs i1).bind fun c i2 => (betw 1 1024 41 xs i2).bind fun s i3 => (bodyR chk k c s xs i3).bind fun b j => .ok ⟨c, s, b⟩ j
def endR (xs : List UInt8) (i : Nat) : Rd Unit := if i < xs.length then .bad i 103 else .ok () i
def allR (xs : List UInt8) (i : Nat) : Rd Cmd := (cmdR chk xs i).bind fun o j => (endR xs j).bind fun _ j => .ok o j
def least (k : Nat) : Nat := if k = 3 ∨ k = 4 then 1 else 0
def mbR (k client : Nat) (xs : List UInt8) (i : Nat) : Rd MB :=
 if k = 1 then .ok .hello i
 else if k = 2 then (allR chk xs i).bind fun o j => if o.c ≠ client then .bad i 104 else .ok (.submit o) j
 else if k = 3 then (betw 1 1024 104 xs i).bind fun q j => .ok (.ack q) j
 else (allR chk xs i).bind fun o j => .ok (.cast o) j
def msgR (xs : List UInt8) : Rd MM :=
 (betw 1 4 100 xs 0).bind fun k i1 => (betw 1 8 104 xs i1).bind fun c i2 => (betw (least k) 8192 104 xs i2).bind fun r i3 => (mbR chk k c xs i3).bind fun b j => (endR xs j).bind fun _ j => .ok ⟨c, r, b⟩ j
end

def encL : Nat → List (Nat × Nat) → List UInt8
 | _, [] => []
 | hi, g :: l => encN (g.1 - hi) ++ (encN (g.2 - g.1) ++ encL g.2 l)
def Body.kind : Body → Nat
 | .ins .. => 1
 | .hide .. => 2
 | .status .. => 4
def encB : Body → List UInt8
 | .ins p t => encN p ++ (encN t.length ++ t)
 | .hide l => encN l.length ++ encL 0 l
 | .status c s on => encN c ++ (encN s ++ encN (if on then 1 else 0))
def encC (o : Cmd) : List UInt8 := encN o.b.kind ++ (encN o.c ++ (encN o.s ++ encB o.b))
def MB.code : MB → Nat
 | .hello => 1
 | .submit _ => 2
 | .ack _ => 3
 | .cast _ => 4
def encMB : MB → List UInt8
 | .hello => []
 | .submit o => encC o
 | .ack q => encN q
 | .cast o => encC o
def encM (m : MM) : List UInt8 := encN m.b.code ++ (encN m.client ++ (encN m.rev ++ encMB m.b))

def OkL : Bool → Nat → List (Nat × Nat) → Prop
 | _, _, [] => True
 | first, hi, g :: l => hi ≤ g.1 ∧ (first = false → hi < g.1) ∧ g.1 < g.2 ∧ g.2 ≤ 1048576 ∧ OkL false g.2 l
section
variable (chk : List UInt8 → Int × Int × Int)
def OkB (c s : Nat) : Body → Prop
 | .ins p t => p ≤ 1048576 ∧ 0 < t.length ∧ t.length ≤ 1024 ∧ (chk t).2.2 = 0 ∧ (chk t).1 ≤ 256 ∧ (p : Int) + (chk t).1 ≤ 1048576
 | .hide l => 0 < l.length ∧ l.length ≤ 32768 ∧ OkL true 0 l
 | .status a b _ => (1 ≤ a ∧ a ≤ 8) ∧ (1 ≤ b ∧ b ≤ 1024) ∧ ¬(a = c ∧ b = s)
def OkC (o : Cmd) : Prop := (1 ≤ o.c ∧ o.c ≤ 8) ∧ (1 ≤ o.s ∧ o.s ≤ 1024) ∧ OkB chk o.c o.s o.b
def OkMB (client : Nat) : MB → Prop
 | .hello => True
 | .submit o => OkC chk o ∧ o.c = client
 | .ack q => 1 ≤ q ∧ q ≤ 1024
 | .cast o => OkC chk o
def OkM (m : MM) : Prop := (1 ≤ m.client ∧ m.client ≤ 8) ∧ (least m.b.code ≤ m.rev ∧ m.rev ≤ 8192) ∧ OkMB chk m.client m.b
end

section
variable {chk : List UInt8 → Int × Int × Int}
theorem ins_rt {xs r : List UInt8} {i p : Nat} {t : List UInt8} {c s : Nat} (h : xs.drop i = encB (.ins p t) ++ r) (ho : OkB chk c s (.ins p t)) : insR chk xs i = .ok (.ins p t) (i + (encB (.ins p t)).length) ∧ xs.drop (i + (encB (.ins p t)).length) = r := by
 obtain ⟨h1, h2, h3, h4, h5, h6⟩ := ho
 simp only [encB, List.append_assoc] at h
 obtain ⟨a1, a2⟩ := betw_rt (lo := 0) (hi := 1048576) (e := 12) h (by omega) (by omega) h1
 obtain ⟨b1, b2⟩ := num_rt a2 (by omega)
 unfold insR
 rw [a1, Rd.bind_ok, b1, Rd.bind_ok, if_neg (by omega), if_neg (by omega)]
 unfold textR
 have hl : i + (encN p).length + (encN t.length).length + t.length ≤ xs.length := by
  have e := congrArg List.length b2
  rw [List.length_drop, List.length_append] at e
  omega
 have ht : (xs.drop (i + (encN p).length + (encN t.length).length)).take t.length = t := by rw [b2, List.take_left']; rfl
 rw [if_neg (by omega), ht, if_neg (by simp [h4]), if_neg (by omega), if_neg (by omega)]
 have e : i + (encB (.ins p t)).length = i + (encN p).length + (encN t.length).length + t.length := by simp only [encB, List.length_append]; omega
 refine ⟨by rw [e], ?_⟩
 rw [e, ← List.drop_drop, b2, List.drop_left']; rfl
theorem ranges_rt {xs : List UInt8} : ∀ (l : List (Nat × Nat)) (first : Bool) (hi i : Nat) (r : List UInt8), xs.drop i = encL hi l ++ r → OkL first hi l → rangesR xs l.length first hi i = .ok l (i + (encL hi l).length) ∧ xs.drop (i + (encL hi l).length) = r
 | [], _, _, _, _, h, _ => ⟨rfl, by simpa [encL] using h⟩
 | g :: l, first, hi, i, r, h, ho => by
  obtain ⟨h1, h2, h3, h4, h5⟩ := ho
  simp only [encL, List.append_assoc] at h
  obtain ⟨a1, a2⟩ := num_rt h (by omega)
  obtain ⟨b1, b2⟩ := num_rt a2 (by omega)
  obtain ⟨c1, c2⟩ := ranges_rt l false g.2 _ r b2 h5
  have e1 : hi + (g.1 - hi) = g.1 := by omega
  have e2 : g.1 + (g.2 - g.1) = g.2 := by omega
  rw [List.length_cons, rangesR, a1, Rd.bind_ok, if_neg (fun hh => by have := h2 hh.2; omega), b1, Rd.bind_ok, e1, e2, if_neg (by omega), c1, Rd.bind_ok]
  have e : i + (encL hi (g :: l)).length = i + (encN (g.1 - hi)).length + (encN (g.2 - g.1)).length + (encL g.2 l).length := by simp only [encL, List.length_append]; omega
  rw [e]
  exact ⟨rfl, c2⟩
theorem body_1 (c s : Nat) : bodyR chk 1 c s = insR chk := by funext xs i; unfold bodyR; rw [if_pos rfl]
theorem body_2 (c s : Nat) : bodyR chk 2 c s = hideR := by funext xs i; unfold bodyR; rw [if_neg (by omega), if_pos rfl]
theorem body_4 (c s : Nat) : bodyR chk 4 c s = statusR c s := by funext xs i; unfold bodyR; rw [if_neg (by omega), if_neg (by omega)]
theorem body_rt {xs r : List UInt8} {i c s : Nat} {b : Body} (h : xs.drop i = encB b ++ r) (ho : OkB chk c s b) : bodyR chk b.kind c s xs i = .ok b (i + (encB b).length) ∧ xs.drop (i + (encB b).length) = r := by
 cases b with
 | ins p t =>
  rw [show (Body.ins p t).kind = 1 from rfl, body_1]
  exact ins_rt h ho
 | hide l =>
  rw [show (Body.hide l).kind = 2 from rfl, body_2]
  obtain ⟨h1, h2, h3⟩ := ho
  simp only [encB, List.append_assoc] at h
  obtain ⟨a1, a2⟩ := num_rt h (by omega)
  obtain ⟨b1, b2⟩ := ranges_rt l true 0 _ r a2 h3
  unfold hideR
  rw [a1, Rd.bind_ok, if_neg (by omega), if_neg (by omega), b1, Rd.bind_ok]
  have e : i + (encB (.hide l)).length = i + (encN l.length).length + (encL 0 l).length := by simp only [encB, List.length_append]; omega
  rw [e]
  exact ⟨rfl, b2⟩
 | status a b on =>
  rw [show (Body.status a b on).kind = 4 from rfl, body_4]
  obtain ⟨h1, h2, h3⟩ := ho
  simp only [encB, List.append_assoc] at h
  obtain ⟨a1, a2⟩ := betw_rt (lo := 1) (hi := 8) (e := 63) h (by omega) h1.1 h1.2
  obtain ⟨b1, b2⟩ := betw_rt (lo := 1) (hi := 1024) (e := 63) a2 (by omega) h2.1 h2.2
  obtain ⟨c1, c2⟩ := betw_rt (lo := 0) (hi := 1) (e := 104) b2 (by split <;> omega) (by omega) (by split <;> omega)
  unfold statusR
  rw [a1, Rd.bind_ok, b1, Rd.bind_ok, if_neg h3, c1, Rd.bind_ok]
  have e : i + (encB (.status a b on)).length = i + (encN a).length + (encN b).length + (encN (if on then 1 else 0)).length := by simp only [encB, List.length_append]; omega
  rw [e]
  refine ⟨?_, c2⟩
  cases on <;> rfl
theorem cmd_rt {xs r : List UInt8} {i : Nat} {o : Cmd} (h : xs.drop i = encC o ++ r) (ho : OkC chk o) : cmdR chk xs i = .ok o (i + (encC o).length) ∧ xs.drop (i + (encC o).length) = r := by
 obtain ⟨h1, h2, h3⟩ := ho
 simp only [encC, List.append_assoc] at h
 have hk : o.b.kind = 1 ∨ o.b.kind = 2 ∨ o.b.kind = 4 := by cases o.b <;> simp [Body.kind]
 obtain ⟨a1, a2⟩ := num_rt h (by omega)
 obtain ⟨b1, b2⟩ := betw_rt (lo := 1) (hi := 8) (e := 41) a2 (by omega) h1.1 h1.2
 obtain ⟨c1, c2⟩ := betw_rt (lo := 1) (hi := 1024) (e := 41) b2 (by omega) h2.1 h2.2
 obtain ⟨d1, d2⟩ := body_rt c2 h3
 unfold cmdR
 rw [a1, Rd.bind_ok, if_neg (by omega), b1, Rd.bind_ok, c1, Rd.bind_ok, d1, Rd.bind_ok]
 have e : i + (encC o).length = i + (encN o.b.kind).length + (encN o.c).length + (encN o.s).length + (encB o.b).length := by simp only [encC, List.length_append]; omega
 rw [e]
 exact ⟨rfl, d2⟩
theorem all_rt {xs : List UInt8} {i : Nat} {o : Cmd} (h : xs.drop i = encC o) (ho : OkC chk o) : allR chk xs i = .ok o xs.length := by
 obtain ⟨a1, a2⟩ := cmd_rt (r := []) (by rw [h, List.append_nil]) ho
 have hn : xs.length ≤ i + (encC o).length := by
  have e := congrArg List.length h
  rw [List.length_drop] at e
  omega
 have hp : 0 < (encC o).length := by
  unfold encC
  have := encN_pos o.b.kind
  rw [List.length_append]; omega
 have he : i + (encC o).length = xs.length := by
  have e := congrArg List.length h
  rw [List.length_drop] at e
  omega
 unfold allR
 rw [a1, Rd.bind_ok, he]
 unfold endR
 rw [if_neg (by omega)]
 rfl
theorem mb_1 (c : Nat) : mbR chk 1 c = fun _ i => .ok .hello i := by funext xs i; unfold mbR; rw [if_pos rfl]
theorem mb_2 (c : Nat) : mbR chk 2 c = fun xs i => (allR chk xs i).bind fun o j => if o.c ≠ c then .bad i 104 else .ok (.submit o) j := by funext xs i; unfold mbR; rw [if_neg (by omega), if_pos rfl]
theorem mb_3 (c : Nat) : mbR chk 3 c = fun xs i => (betw 1 1024 104 xs i).bind fun q j => .ok (.ack q) j := by funext xs i; unfold mbR; rw [if_neg (by omega), if_neg (by omega), if_pos rfl]
theorem mb_4 (c : Nat) : mbR chk 4 c = fun xs i => (allR chk xs i).bind fun o j => .ok (.cast o) j := by funext xs i; unfold mbR; rw [if_neg (by omega), if_neg (by omega), if_neg (by omega)]
theorem mb_rt {xs : List UInt8} {i c : Nat} {b : MB} (hi : i ≤ xs.length) (h : xs.drop i = encMB b) (ho : OkMB chk c b) : mbR chk b.code c xs i = .ok b xs.length := by
 have hl := congrArg List.length h
 rw [List.length_drop] at hl
 cases b with
 | hello =>
  have : i = xs.length := by simp only [encMB, List.length_nil] at hl; omega
  rw [show MB.hello.code = 1 from rfl, mb_1, this]
 | submit o =>
  rw [show (MB.submit o).code = 2 from rfl, mb_2]
  simp only [all_rt h ho.1, Rd.bind_ok]
  rw [if_neg (by simp [ho.2])]
 | ack q =>
  rw [show (MB.ack q).code = 3 from rfl, mb_3]
  obtain ⟨a1, a2⟩ := betw_rt (lo := 1) (hi := 1024) (e := 104) (r := []) (by rw [h, List.append_nil]; rfl) (by have := ho.2; omega) ho.1 ho.2
  simp only [a1, Rd.bind_ok]
  have : i + (encN q).length = xs.length := by simp only [encMB] at hl; omega
  rw [this]
 | cast o =>
  rw [show (MB.cast o).code = 4 from rfl, mb_4]
  simp only [all_rt h ho, Rd.bind_ok]
theorem msg_rt {m : MM} (ho : OkM chk m) : msgR chk (encM m) = .ok m (encM m).length := by
 obtain ⟨h1, h2, h3⟩ := ho
 have hk : 1 ≤ m.b.code ∧ m.b.code ≤ 4 := by cases m.b <;> simp [MB.code]
 have h : (encM m).drop 0 = encN m.b.code ++ (encN m.client ++ (encN m.rev ++ encMB m.b)) := rfl
 obtain ⟨a1, a2⟩ := betw_rt (lo := 1) (hi := 4) (e := 100) h (by omega) hk.1 hk.2
 obtain ⟨b1, b2⟩ := betw_rt (lo := 1) (hi := 8) (e := 104) a2 (by omega) h1.1 h1.2
 obtain ⟨c1, c2⟩ := betw_rt (lo := least m.b.code) (hi := 8192) (e := 104) b2 (by omega) h2.1 h2.2
 unfold msgR
 have hle : 0 + (encN m.b.code).length + (encN m.client).length + (encN m.rev).length ≤ (encM m).length := by simp only [encM, List.length_append]; omega
 rw [a1, Rd.bind_ok, b1, Rd.bind_ok, c1, Rd.bind_ok, mb_rt hle c2 h3, Rd.bind_ok]
 unfold endR
 rw [if_neg (by omega)]
 rfl
end
end Go.Proofs.YtjnicgfkogfifaaDoor
end

section
/- The reader of msg: a number within bounds, an id, the end, a Status' fields, by their contracts. -/
namespace Go.Proofs.YtjnicgfkogfifaaDoor
open Go.RowKit Go.Proofs.YtjnicgfkogfifaaDoorW.PrintWords Go.Proofs.YtjnicgfkogfifaaDoorW.PrintLast

theorem St.perm {w0 w : World} {bs bs' : List Bx} {F : World → Prop} (S : St w0 w bs F) (h : bs.Perm bs') : St w0 w bs' F :=
 ⟨S.below, fun b hm => S.box b (h.mem_iff.2 hm), ((h.map _).nodup_iff).1 S.nd, S.foot.mono fun _ hk hm => hk ((h.map _).mem_iff.2 hm)⟩
theorem St.sw {w0 w : World} {a b : Bx} {bs : List Bx} {F : World → Prop} (S : St w0 w (a :: b :: bs) F) : St w0 w (b :: a :: bs) F := S.perm (List.Perm.swap _ _ _)
theorem St.r3 {w0 w : World} {a b c : Bx} {bs : List Bx} {F : World → Prop} (S : St w0 w (a :: b :: c :: bs) F) : St w0 w (c :: a :: b :: bs) F :=
 S.perm ((List.Perm.cons a (List.Perm.swap c b bs)).trans (List.Perm.swap c a (b :: bs)))
theorem St.u3 {w0 w : World} {a b c : Bx} {bs : List Bx} {F : World → Prop} (S : St w0 w (c :: a :: b :: bs) F) : St w0 w (a :: b :: c :: bs) F := S.r3.r3
theorem St.one {w0 w : World} {a : Bx} {bs : List Bx} {F : World → Prop} (S : St w0 w (a :: bs) F) : St w0 w bs F := S.drop (List.sublist_cons_self _ _)
theorem betw_of {lo hi : Nat} {e : Int} {xs : List UInt8} {i n j : Nat} (h : num xs i = .ok n j) : betw lo hi e xs i = if n < lo ∨ hi < n then .bad i e else .ok n j := by unfold betw; rw [h]; rfl
theorem betw_off {lo hi : Nat} {e : Int} {xs : List UInt8} {i : Nat} {p q : Int} (h : num xs i = .bad p q) : betw lo hi e xs i = .bad p q := by unfold betw; rw [h]; rfl
set_option maxRecDepth 100000 in
set_option maxHeartbeats 4000000 in
theorem between_any (w0 w : World) (bs : List Bx) (F : World → Prop) (g : Nat) (A : Option Addr) (c i : Nat) (xs : List UInt8) (lo up : Nat) (L U er : Int) (S : St w0 w ((g, 93, rdA A xs.length c i) :: bs) F) (hF : ∀ W, F W → BytesAt W A xs) (hi : i ≤ xs.length) (hl : xs.length ≤ 140737488351232) (hL : L = (lo : Int)) (hU : U = (up : Int)) :
 Calls Tryd.prog 49 #[.pointer (some ⟨g, 0, none⟩), .int .i64 L, .int .i64 U, .int .i64 er] w (Got w0 bs F g A xs.length c (betw lo up er xs i)) := by
 subst hL
 subst hU
 have HF := Aside0.mk hF
 replace S := Aside0.mk S
 clear hF
 rcases hr : num xs i with ⟨n, j⟩ | ⟨p, q⟩
 · have hb := num_ok hr
   have hw := betw_of (lo := lo) (hi := up) (e := er) hr
   have HR := Aside0.mk hr
   clear hr
   by_cases hc : n < lo ∨ up < n
   · rw [if_pos hc] at hw
     have HW := Aside0.mk hw
     have hn : n < 268435456 := hb.1
     clear hw hb
     by_cases h3 : n < lo
     · clear hc
       have q1 : decide (n < lo) = true := decide_eq_true h3
       clear h3
       go_enter Tryd.func49, Tryd.ntmps49
       go_wp2_with (first | ((with_reducible refine gate_load rfl ?_); refine ev_fld S ?_) | (go_at_call 53; (with_reducible refine (number_any w0 _ _ F g A c i xs S.out HF.out hi hl).mono ?_); rw [HR.out]; rintro e_ w7 ⟨rfl, S'⟩; replace S := Aside0.mk S'))
       exact ⟨rfl, got_bad HW.out S.out⟩
     · have q1 : decide (n < lo) = false := decide_eq_false h3
       have q2 : decide (up < n) = true := decide_eq_true (by omega)
       clear hc h3
       go_enter Tryd.func49, Tryd.ntmps49
       go_wp2_with (first | ((with_reducible refine gate_load rfl ?_); refine ev_fld S ?_) | (go_at_call 53; (with_reducible refine (number_any w0 _ _ F g A c i xs S.out HF.out hi hl).mono ?_); rw [HR.out]; rintro e_ w7 ⟨rfl, S'⟩; replace S := Aside0.mk S'))
       exact ⟨rfl, got_bad HW.out S.out⟩
   · rw [if_neg hc] at hw
     have HW := Aside0.mk hw
     have q1 : decide (n < lo) = false := decide_eq_false (by omega)
     have q2 : decide (up < n) = false := decide_eq_false (by omega)
     clear hw hb hc
     go_enter Tryd.func49, Tryd.ntmps49
     go_wp2_with (first | ((with_reducible refine gate_load rfl ?_); refine ev_fld S ?_) | (go_at_call 53; (with_reducible refine (number_any w0 _ _ F g A c i xs S.out HF.out hi hl).mono ?_); rw [HR.out]; rintro e_ w7 ⟨rfl, S'⟩; replace S := Aside0.mk S'))
     go_ret
     exact got_ok HW.out S.out
 · have HW := Aside0.mk (betw_off (lo := lo) (hi := up) (e := er) hr)
   have HR := Aside0.mk hr
   clear hr
   go_enter Tryd.func49, Tryd.ntmps49
   go_wp2_with (first | ((with_reducible refine gate_load rfl ?_); refine ev_fld S ?_) | (go_at_call 53; (with_reducible refine (number_any w0 _ _ F g A c i xs S.out HF.out hi hl).mono ?_); rw [HR.out]; rintro e_ w7 ⟨rfl, cs_, S'⟩; replace S := Aside0.mk S'))
   exact ⟨rfl, got_bad HW.out S.out⟩
def GotU (w0 : World) (bs : List Bx) (F : World → Prop) (g : Nat) (A : Option Addr) (n c : Nat) (r : Rd Unit) (e : Ending) (w' : World) : Prop :=
 match r with
 | .ok _ j => e = .returned (.tuple #[]) ∧ St w0 w' ((g, 93, rdA A n c j) :: bs) F
 | .bad p er => e = flt p er ∧ ∃ cs, St w0 w' ((g, 93, cs) :: bs) F
set_option maxRecDepth 100000 in
set_option maxHeartbeats 4000000 in
theorem end_any (w0 w : World) (bs : List Bx) (F : World → Prop) (g : Nat) (A : Option Addr) (c i : Nat) (xs : List UInt8) (S : St w0 w ((g, 93, rdA A xs.length c i) :: bs) F) :
 Calls Tryd.prog 50 #[.pointer (some ⟨g, 0, none⟩)] w (GotU w0 bs F g A xs.length c (endR xs i)) := by
 replace S := Aside0.mk S
 by_cases hc : i < xs.length
 · have HW := Aside0.mk (show endR xs i = .bad i 103 by unfold endR; rw [if_pos hc])
   have q1 : decide (i < xs.length) = true := decide_eq_true hc
   clear hc
   go_enter Tryd.func50, Tryd.ntmps50
   go_upto_region 0 with (fail)
   refine rg_start (n := 10) (fun W => St w0 W _ F) [] S.out (fun _ h => h.drew) ?_
   clear S
   intro _ S
   refine pu_ 0 ?_; refine pu_ 1 ?_; refine pu_ 2 ?_; refine fl_ 3 0 S ?_; refine pu_ 4 ?_; refine pu_ 5 ?_; refine pu_ 6 ?_; refine fl_ 7 0 S ?_; refine pu_ 8 ?_; refine pu_ 9 ?_
   refine done_ (by kernel_rfl) ?_
   replace S := Aside0.mk S
   go_wp2_with (first | ((with_reducible refine gate_load rfl ?_); refine ev_fld S ?_))
   rw [HW.out]
   exact ⟨rfl, rfl, _, S.out⟩
 · have HW := Aside0.mk (show endR xs i = .ok () i by unfold endR; rw [if_neg hc])
   have q1 : decide (i < xs.length) = false := decide_eq_false hc
   clear hc
   go_enter Tryd.func50, Tryd.ntmps50
   go_upto_region 0 with (fail)
   refine rg_start (n := 10) (fun W => St w0 W _ F) [] S.out (fun _ h => h.drew) ?_
   clear S
   intro _ S
   refine pu_ 0 ?_; refine pu_ 1 ?_; refine pu_ 2 ?_; refine fl_ 3 0 S ?_; refine pu_ 4 ?_; refine pu_ 5 ?_; refine pu_ 6 ?_; refine fl_ 7 0 S ?_; refine pu_ 8 ?_; refine pu_ 9 ?_
   refine done_ (by kernel_rfl) ?_
   replace S := Aside0.mk S
   go_wp2_with (first | ((with_reducible refine gate_load rfl ?_); refine ev_fld S ?_))
   refine ⟨rfl, .tuple #[], by simp [results, Tryd.results50], ?_⟩
   rw [HW.out]
   exact ⟨rfl, S.out⟩
theorem results_c1 {P : Program} {fn : Func} {p : Tmp} {ty : TypeId} (h : fn.results = #[.cell p ty]) (tmps : Array Value) (w : World) (g : Nat) (t : TypeId) (cs : Array Value) (fr : Nat × Nat) (d : TypeDesc)
 (hp : tmps.getD p undef = .pointer (some ⟨g, 0, none⟩)) (hg : w.heap[g]? = some (.cells cs t fr)) (hu : P.underlying ty = some d) (hd : (match d with | .struct _ | .array _ _ => true | _ => false) = true) (hi : (P.info? ty).map (·.size) = some cs.size) :
 (results fn tmps).run P w = .ok (.agg cs) w := by
 have hq : tmps[p]?.getD undef = .pointer (some ⟨g, 0, none⟩) := by simpa using hp
 simp [results, h, hq, asAddr, run_loadVar_row w g t ty cs fr d hg hu hd hi]
def idR (e : Int) (xs : List UInt8) (i : Nat) : Rd (Nat × Nat) := (betw 1 8 e xs i).bind fun a j => (betw 1 1024 e xs j).bind fun b l => .ok (a, b) l
def GotI (w0 : World) (bs : List Bx) (F : World → Prop) (g : Nat) (A : Option Addr) (n c : Nat) (r : Rd (Nat × Nat)) (e : Ending) (w' : World) : Prop :=
 match r with
 | .ok m j => e = .returned (.agg #[.int .i64 (m.1 : Int), .int .i64 (m.2 : Int)]) ∧ St w0 w' ((g, 93, rdA A n c j) :: bs) F
 | .bad p er => e = flt p er ∧ ∃ cs, St w0 w' ((g, 93, cs) :: bs) F
set_option maxRecDepth 100000 in
set_option maxHeartbeats 4000000 in
theorem id_any (w0 w : World) (bs : List Bx) (F : World → Prop) (g : Nat) (A : Option Addr) (c i : Nat) (xs : List UInt8) (er : Int) (S : St w0 w ((g, 93, rdA A xs.length c i) :: bs) F) (hF : ∀ W, F W → BytesAt W A xs) (hi : i ≤ xs.length) (hl : xs.length ≤ 140737488351232) :
 Calls Tryd.prog 54 #[.pointer (some ⟨g, 0, none⟩), .int .i64 er] w (GotI w0 bs F g A xs.length c (idR er xs i)) := by
 have HF := Aside0.mk hF
 replace S := Aside0.mk S
 clear hF
 rcases hr : betw 1 8 er xs i with ⟨n, j⟩ | ⟨p, q⟩
 · have hj := (betw_ok hr).2.2.2
   have HR := Aside0.mk hr
   rcases hr2 : betw 1 1024 er xs j with ⟨m, l⟩ | ⟨p, q⟩
   · have HW := Aside0.mk (show idR er xs i = .ok (n, m) l by unfold idR; rw [hr, Rd.bind_ok, hr2]; rfl)
     have HR2 := Aside0.mk hr2
     clear hr hr2
     go_enter Tryd.func54, Tryd.ntmps54
     go_wp2_with (first | ((with_reducible refine gate_new rfl ?_); refine ev_new S 29 #[.int .i64 0, .int .i64 0] ?_; clear S; intro _ _ S; replace S := Aside0.mk S.out.sw) | (go_at_call 49; (with_reducible refine (between_any _ _ _ _ _ _ _ _ xs 1 8 _ _ _ S.out HF.out hi hl (by omega) (by omega)).mono ?_); rw [HR.out]; rintro e_ w7 ⟨rfl, S'⟩; replace S := Aside0.mk S'; clear S') | (go_at_call 49; (with_reducible refine (between_any _ _ _ _ _ _ _ _ xs 1 1024 _ _ _ S.out HF.out hj hl (by omega) (by omega)).mono ?_); rw [HR2.out]; rintro e_ w7 ⟨rfl, S'⟩; replace S := Aside0.mk S'; clear S') | ((with_reducible refine gate_st rfl ?_); refine ev_store S ?_; clear S; intro _ S))
     refine bodyPost_ret (results_c1 rfl _ _ _ 29 _ (0, 0) _ rfl (S.out.at_ 1 rfl) Tryd.underlying29 rfl (by kernel_rfl)) rfl ?_
     rw [HW.out]
     exact ⟨rfl, S.out.sw.one⟩
   · have HW := Aside0.mk (show idR er xs i = .bad p q by unfold idR; rw [hr, Rd.bind_ok, hr2]; rfl)
     have HR2 := Aside0.mk hr2
     clear hr hr2
     go_enter Tryd.func54, Tryd.ntmps54
     go_wp2_with (first | ((with_reducible refine gate_new rfl ?_); refine ev_new S 29 #[.int .i64 0, .int .i64 0] ?_; clear S; intro _ _ S; replace S := Aside0.mk S.out.sw) | (go_at_call 49; (with_reducible refine (between_any _ _ _ _ _ _ _ _ xs 1 8 _ _ _ S.out HF.out hi hl (by omega) (by omega)).mono ?_); rw [HR.out]; rintro e_ w7 ⟨rfl, S'⟩; replace S := Aside0.mk S'; clear S') | (go_at_call 49; (with_reducible refine (between_any _ _ _ _ _ _ _ _ xs 1 1024 _ _ _ S.out HF.out hj hl (by omega) (by omega)).mono ?_); rw [HR2.out]; rintro e_ w7 ⟨rfl, cs_, S'⟩; replace S := Aside0.mk S'; clear S'))
     refine ⟨rfl, ?_⟩
     rw [HW.out]
     exact ⟨rfl, _, S.out.sw.one⟩
 · have HW := Aside0.mk (show idR er xs i = .bad p q by unfold idR; rw [hr]; rfl)
   have HR := Aside0.mk hr
   clear hr
   go_enter Tryd.func54, Tryd.ntmps54
   go_wp2_with (first | ((with_reducible refine gate_new rfl ?_); refine ev_new S 29 #[.int .i64 0, .int .i64 0] ?_; clear S; intro _ _ S; replace S := Aside0.mk S.out.sw) | (go_at_call 49; (with_reducible refine (between_any _ _ _ _ _ _ _ _ xs 1 8 _ _ _ S.out HF.out hi hl (by omega) (by omega)).mono ?_); rw [HR.out]; rintro e_ w7 ⟨rfl, cs_, S'⟩; replace S := Aside0.mk S'; clear S'))
   refine ⟨rfl, ?_⟩
   rw [HW.out]
   exact ⟨rfl, _, S.out.sw.one⟩
end Go.Proofs.YtjnicgfkogfifaaDoor
end
